/- The walk of OctetBack: what was put is read, whatever stands behind it; texts and bytes of any length. -/
import Derived.Test.YthbcliofjfhmbaaRdrAll
import Derived.Test.YthbcliofjfhmbaaOctAwake
import Derived.Test.YthbcliofjfhmbaaRegZ
import Derived.Test.YthbcliofjfhmbaaWInvWords
namespace Go.Proofs.Ythbcliofjfhmbaa
open Go.RowKit Go.Proofs.YthbcliofjfhmbaaW.PrintWords Go.Proofs.YthbcliofjfhmbaaW.PrintLast Go.Proofs.YthbcliofjfhmbaaW.PrintMore Go.Proofs.Ythbcliofjfhmbaa.Given
set_option linter.unusedVariables false
set_option linter.unusedSimpArgs false
theorem sh_div (v : Int) : ∀ n, sh n v = v / 2 ^ (8 * n)
  | 0 => by simp [sh]
  | n + 1 => by
    rw [sh, sh_div v n, show 8 * (n + 1) = 8 * n + 8 by omega, Int.pow_add, Int.ediv_ediv_of_nonneg (Int.le_of_lt (Int.pow_pos (by decide)))]
    rfl
theorem leN_le (v : Int) : ∀ n, leN (le n v) = v % 2 ^ (8 * n)
  | 0 => by simp [le, leN, Int.emod_one]
  | n + 1 => by
    rw [le, leN_app, leN_le v n, le_length, sh_div, show 8 * (n + 1) = 8 * n + 8 by omega, Int.pow_add, show (2 : Int) ^ 8 = 256 from rfl]
    have hp : (0 : Int) < 2 ^ (8 * n) := Int.pow_pos (by decide)
    generalize (2 : Int) ^ (8 * n) = p at *
    have e1 := Int.mul_ediv_add_emod v p
    have e2 := Int.mul_ediv_add_emod (v / p) 256
    have h0 := Int.emod_nonneg v (show p ≠ 0 by omega)
    have h1 := Int.emod_lt_of_pos v hp
    have h2 := Int.emod_nonneg (v / p) (show (256 : Int) ≠ 0 by omega)
    have h3 := Int.emod_lt_of_pos (v / p) (show (0 : Int) < 256 by omega)
    generalize v % p = r at *
    generalize v / p % 256 = x at *
    generalize v / p / 256 = q at *
    generalize v / p = y at *
    subst e2
    have e3 : v = r + x * p + p * 256 * q := by rw [← e1, Int.mul_add, ← Int.mul_assoc, Int.mul_comm x p]; omega
    have h4 : x * p ≤ 255 * p := Int.mul_le_mul_of_nonneg_right (by omega) (by omega)
    have h5 : 0 ≤ x * p := Int.mul_nonneg h2 (by omega)
    rw [e3, Int.add_mul_emod_self_left]
    exact (Int.emod_eq_of_lt (by omega) (by omega)).symm
theorem cut_mid (a m c : List Int) (i n : Int) (hi : i = a.length) (hn : n = m.length) : cutR (a ++ m ++ c) i n = m := by
  subst hi hn
  unfold cutR
  rw [Int.toNat_natCast, Int.toNat_natCast, List.append_assoc, List.drop_left, List.take_left]
theorem num_at (a m c : List Int) (i many : Int) (hi : i = a.length) (hm : mx 0 (mn many 8) = m.length) : numR (a ++ m ++ c) i false many = (wrap64 (leN m), i + m.length, false) := by
  unfold numR
  rw [hm, cut_mid a m c i _ hi rfl, if_pos]
  refine ⟨rfl, Int.natCast_nonneg _, ?_⟩
  simp only [List.length_append]
  omega
theorem take_at (a m c : List Int) (i n : Int) (hi : i = a.length) (hn : n = m.length) : takeR (a ++ m ++ c) i false n = (m, i + n, false) := by
  unfold takeR
  rw [cut_mid a m c i n hi hn, if_pos]
  refine ⟨rfl, by omega, ?_⟩
  simp only [List.length_append]
  omega
theorem bytes_len (s : ByteArray) : (bytesOf s).length = s.size := by simp [bytesOf]
theorem str_bytes (s : ByteArray) : strOfNums (bytesOf s) = s := by
  obtain ⟨⟨l⟩⟩ := s
  unfold strOfNums bytesOf
  simp only [List.map_map]
  congr 2
  have : ∀ b : UInt8, ((fun x : Int => x.toNat.toUInt8) ∘ fun b : UInt8 => (b.toNat : Int)) b = b := by intro b; simp
  exact (List.map_congr_left (fun b _ => this b)).trans (List.map_id _)
theorem wf8 {a : Int} (h : (Lit.int .u8 a).wf = true) : 0 ≤ a ∧ a < 256 := by
  unfold Lit.wf at h
  simp only [Bool.and_eq_true, decide_eq_true_eq, show IntKind.u8.min = 0 from rfl, show IntKind.u8.max = 255 from rfl] at h
  omega
theorem wf64 {a : Int} (h : (Lit.int .i64 a).wf = true) : -9223372036854775808 ≤ a ∧ a ≤ 9223372036854775807 := by
  unfold Lit.wf at h
  simp only [Bool.and_eq_true, decide_eq_true_eq, show IntKind.i64.min = -9223372036854775808 from rfl, show IntKind.i64.max = 9223372036854775807 from rfl] at h
  exact h
theorem le_byte (v : Int) : ∀ m, ∀ b ∈ le m v, 0 ≤ b ∧ b < 256
  | 0, b, h => by simp [le] at h
  | m + 1, b, h => by
    unfold le at h
    rcases List.mem_append.1 h with h | h
    · exact le_byte v m b h
    · rw [List.mem_singleton.1 h]
      omega
theorem bytes_byte (s : ByteArray) : ∀ b ∈ bytesOf s, 0 ≤ b ∧ b < 256 := by
  intro b h
  obtain ⟨u, _, rfl⟩ := List.mem_map.1 h
  have := u.toNat_lt
  omega
theorem text_all (s : ByteArray) (h : s.size ≤ 255) : textOf s = s := by
  unfold textOf
  rw [Nat.min_eq_left h]
  simp
set_option maxHeartbeats 4000000 in
set_option maxRecDepth 100000 in
theorem OctetBack_walk (s : ByteArray) (n : Int) (A : Option Addr) (c : Nat) (x : List Int) (w : World) (hs : s.size ≤ 140737488351232) (w1 : (Lit.int .i64 n).wf = true) (hC : (Kd.int .u8).C w A x.length x) (hle : x.length ≤ c) (wf : ∀ a ∈ x, (Lit.int .u8 a).wf = true) :
    Calls Try.prog 4 #[.string s, .int .i64 n, .slice A x.length c] w fun e w' => e = .returned (.bool true) ∧ Below w.heap.size w w' := by
  have HC := Aside0.mk hC
  by_cases h1 : s.size > 200 ∨ x.length > 200
  · have hg : decide (200 < (s.size : Int)) = true ∨ decide (200 < (x.length : Int)) = true := by
      rcases h1 with h | h
      · exact .inl (decide_eq_true (by omega))
      · exact .inr (decide_eq_true (by omega))
    clear hC wf
    by_cases h2 : (s.size : Int) ≤ 200
    · have h3 : ¬ (x.length : Int) ≤ 200 := by omega
      clear h1 hg
      go_enter Try.func4, Try.ntmps4
      go_wp2_with fail
      all_goals first | (exfalso; omega) | skip
      refine (awake03 w).mono ?_
      rintro e w1 ⟨rfl, hb⟩
      go_wp2
      go_ret
      exact ⟨rfl, hb⟩
    · clear h1 hg
      go_enter Try.func4, Try.ntmps4
      go_wp2_with fail
      all_goals first | (exfalso; omega) | skip
      all_goals (
        refine (awake03 w).mono ?_
        rintro e w1 ⟨rfl, hb⟩
        go_wp2
        go_ret
        exact ⟨rfl, hb⟩)
  · have hs2 : s.size ≤ 200 := by omega
    have hx2 : x.length ≤ 200 := by omega
    obtain ⟨T, hT⟩ : ∃ T, T = le 1 ((min s.size 255 : Nat) : Int) ++ bytesOf (textOf s) := ⟨_, rfl⟩
    obtain ⟨E, hE⟩ : ∃ E, E = le 8 n := ⟨_, rfl⟩
    obtain ⟨C, hC1⟩ : ∃ C, C = E ++ T := ⟨_, rfl⟩
    obtain ⟨B, hB⟩ : ∃ B, B = C ++ le 4 n := ⟨_, rfl⟩
    obtain ⟨R, hR⟩ : ∃ R, R = B ++ x := ⟨_, rfl⟩
    have lT : T.length = 1 + s.size := by rw [hT, List.length_append, le_length, text_all s (by omega), bytes_len]
    have lE : E.length = 8 := by rw [hE, le_length]
    have lC : C.length = 9 + s.size := by rw [hC1, List.length_append, lT, lE]; omega
    have lB : B.length = 13 + s.size := by rw [hB, List.length_append, lC, le_length]; omega
    have lR : R.length = 13 + s.size + x.length := by rw [hR, List.length_append, lB]
    have hn := wf64 w1
    have z8 : (mx 0 (mn 8 8)).toNat = 8 := by decide
    have z4 : (mx 0 (mn 4 8)).toNat = 4 := by decide
    have P1 : Aside0 (octet_Put.f [] 8 n = some E) := ⟨by unfold octet_Put.f; rw [if_pos (by simp), z8, List.nil_append, hE]⟩
    have P2 : Aside0 (octet_Text.f E s = some C) := ⟨by unfold octet_Text.f; rw [if_pos (by omega), hC1, hT, List.append_assoc]⟩
    have P3 : Aside0 (octet_Put.f C 4 n = some B) := ⟨by unfold octet_Put.f; rw [if_pos (by omega), z4, hB]⟩
    have p64 : (2 : Int) ^ (8 * 8) = 18446744073709551616 := rfl
    have p32 : (2 : Int) ^ (8 * 4) = 4294967296 := rfl
    have W32 : Aside0 (IntKind.i64.wrap (IntKind.u32.wrap n) = IntKind.u32.wrap n) := ⟨by rw [i64_w]; show wrap64 (n % 4294967296) = n % 4294967296; unfold wrap64; omega⟩
    have N1 : Aside0 (numR R 0 false 8 = (n, 8, false)) := ⟨by
      have h := num_at [] E (T ++ le 4 n ++ x) 0 8 rfl (by rw [lE]; rfl)
      rw [List.nil_append, show E ++ (T ++ le 4 n ++ x) = R by rw [hR, hB, hC1]; simp only [List.append_assoc], lE, hE, leN_le, p64] at h
      rw [h, show wrap64 (n % 18446744073709551616) = n by unfold wrap64; omega]
      rfl⟩
    have N2 : Aside0 (textR R 8 false = (s, 9 + (s.size : Int), false)) := ⟨by
      have h := num_at E (le 1 ((min s.size 255 : Nat) : Int)) (bytesOf (textOf s) ++ le 4 n ++ x) 8 1 (by rw [lE]; rfl) (by rw [le_length]; rfl)
      rw [show E ++ le 1 ((min s.size 255 : Nat) : Int) ++ (bytesOf (textOf s) ++ le 4 n ++ x) = R by rw [hR, hB, hC1, hT]; simp only [List.append_assoc], le_length, leN_le, Nat.min_eq_left (by omega : s.size ≤ 255), show wrap64 ((s.size : Int) % 2 ^ (8 * 1)) = (s.size : Int) by unfold wrap64; rw [show (2 : Int) ^ (8 * 1) = 256 from rfl]; omega] at h
      unfold textR
      dsimp only
      rw [h]
      dsimp only
      have h2 := take_at (E ++ le 1 ((min s.size 255 : Nat) : Int)) (bytesOf (textOf s)) (le 4 n ++ x) (8 + ((1 : Nat) : Int)) (s.size : Int) (by rw [List.length_append, lE, le_length]; rfl) (by rw [text_all s (by omega), bytes_len])
      rw [show E ++ le 1 ((min s.size 255 : Nat) : Int) ++ bytesOf (textOf s) ++ (le 4 n ++ x) = R by rw [hR, hB, hC1, hT]; simp only [List.append_assoc]] at h2
      rw [h2, text_all s (by omega), str_bytes]
      rfl⟩
    have N3 : Aside0 (numR R (9 + (s.size : Int)) false 4 = (IntKind.u32.wrap n, 13 + (s.size : Int), false)) := ⟨by
      have h := num_at C (le 4 n) x (9 + (s.size : Int)) 4 (by rw [lC]; omega) (by rw [le_length]; rfl)
      rw [← hB, ← hR, le_length, leN_le, p32, show wrap64 (n % 4294967296) = n % 4294967296 by unfold wrap64; omega] at h
      rw [h]
      show (n % 4294967296, _, _) = (n % 4294967296, _, _)
      rw [show 9 + (s.size : Int) + ((4 : Nat) : Int) = 13 + (s.size : Int) by omega]⟩
    have N4 : Aside0 ((R.length : Int) - (13 + (s.size : Int)) = (x.length : Int)) := ⟨by rw [lR]; omega⟩
    have N5 : Aside0 (takeR R (13 + (s.size : Int)) false (x.length : Int) = (x, 13 + (s.size : Int) + (x.length : Int), false)) := ⟨by
      have h := take_at B x [] (13 + (s.size : Int)) (x.length : Int) (by rw [lB]; omega) rfl
      rw [List.append_nil, ← hR] at h
      exact h⟩
    have OB : Aside0 (okB R = true) := ⟨by
      unfold okB
      simp only [Bool.and_eq_true, List.all_eq_true, decide_eq_true_eq]
      refine ⟨fun b hb => ?_, by omega⟩
      rw [hR, hB, hC1, hE, hT] at hb
      simp only [List.mem_append] at hb
      rcases hb with ((h | (h | h)) | h) | h
      · exact le_byte _ _ b h
      · exact le_byte _ _ b h
      · exact bytes_byte _ b h
      · exact le_byte _ _ b h
      · exact wf8 (wf b h)⟩
    have HZ : Aside0 (B.length ≤ 1000) := ⟨by omega⟩
    clear lT lE lC lB lR hn z8 z4 p64 p32
    have HR := Aside0.mk hR
    have h1a : ¬ s.size > 200 := by omega
    have h1b : ¬ x.length > 200 := by omega
    clear hT hB hR h1 hC wf hE hC1
    go_enter Try.func4, Try.ntmps4
    go_wp2_with fail
    refine (octet_Put.calls none 0 [] 8 n _ _ (by exact ⟨rfl, by decide, fun h => absurd h (by decide)⟩) (Nat.le_refl _) P1.out).mono ?_
    rintro e w1 ⟨v1, rfl, ho1, hb1⟩
    obtain ⟨A1, c1, rfl, hl1, hC1⟩ := Kd.R_reads ho1
    go_wp2_with fail
    refine (octet_Text.calls A1 c1 E s _ _ hC1 hl1 P2.out).mono ?_
    rintro e w2 ⟨v2, rfl, ho2, hb2⟩
    obtain ⟨A2, c2, rfl, hl2, hC2⟩ := Kd.R_reads ho2
    go_wp2_with fail
    refine (octet_Put.calls A2 c2 _ 4 n _ _ hC2 hl2 P3.out).mono ?_
    rintro e w3 ⟨v3, rfl, ho3, hb3⟩
    obtain ⟨A3, c3, rfl, hl3, hC3⟩ := Kd.R_reads ho3
    have HC3 := Aside0.mk hC3
    have HB3 := Aside0.mk ((hb1.trans (hb2.mono hb1.size)).trans (hb3.mono (Nat.le_trans hb1.size hb2.size)))
    clear ho1 ho2 ho3 hC1 hC2 hC3 hl1 hl2 hb1 hb2 hb3 P1 P2 P3
    have hx3 := Aside0.mk hx2
    go_wp2_with (first
      | ((with_reducible refine gate_dst (N := 24) rfl ?_); refine Kd.R_lit (Kd.int .u8) _ 5 ?hg (N := 24) ?hd (xs := ([] : List Int)) (inner := []) (ok := fun _ => True) (okp := fun _ => True) ?hr ?hp (fun _ hk => hk) trivial (Below.refl _ _) (Nat.le_refl _) (by simp) ?_; (case hd => rfl); (case hg => rfl); (case hr => first | (go_simp; done) | (go_simp; rfl)); (case hp => exact (Reps.none _ _)); intro v4 w4 ho4 hb4 hg4 hn4; clear hg4 hn4; have HO4 := Aside0.mk ho4; have HB4 := Aside0.mk hb4; clear ho4 hb4)
      | ((with_reducible refine gate_builtin (b := .append) (xs := #[.tmp 24, .tmp 25]) rfl ?_); at_builtin; refine Kd.R_append_rows (Kd.int .u8) (w0 := w3) w3.heap.size rfl (.tmp 24) (.tmp 25) 22 5 (.int .u8 0) 1 rfl Try.underlying22 infoU8 rfl (by decide) (by omega) v4 [] B _ _ _ (fun _ => True) (fun _ => False) rfl rfl ?aO ?aR (fun _ _ h => h) (fun _ h => h.elim) ?aF ?aB ?aS ?aL ?_; (case aR => exact Kd.C_below HC3.out HB4.out); (case aB => exact HB4.out); (case aF => exact (fun _ _ => trivial)); (case aO => exact HO4.out); (case aS => exact HB4.out.size); (case aL => have := HZ.out; simp; omega); intro v5 w5 ho5 hb5 hg5 hat5; clear hg5 hat5; have HO5 := Aside0.mk ho5; have HB5 := Aside0.mk hb5; clear ho5 hb5)
      | ((with_reducible refine gate_builtin (b := .append) (xs := #[.tmp 26, .tmp 27]) rfl ?_); at_builtin; refine Kd.R_append_rows (Kd.int .u8) (w0 := w3) w3.heap.size rfl (.tmp 26) (.tmp 27) 22 5 (.int .u8 0) 1 rfl Try.underlying22 infoU8 rfl (by decide) (by omega) v5 ([] ++ B) x _ _ _ (fun _ => True) (fun _ => False) rfl rfl ?aO ?aR (fun _ _ h => h) (fun _ h => h.elim) ?aF ?aB ?aS ?aL ?_; (case aR => exact Kd.C_below (Kd.C_below HC.out HB3.out) HB5.out); (case aB => exact HB5.out); (case aF => exact (fun _ _ => trivial)); (case aO => exact HO5.out); (case aS => exact HB5.out.size); (case aL => have := HZ.out; have := hx3.out; simp; omega); intro v6 w6 ho6 hb6 hg6 hat6; clear hg6 hat6; have HO6 := Aside0.mk ho6; have HB6 := Aside0.mk hb6; clear ho6 hb6))
    have ho6 := HO6.out
    rw [List.nil_append, ← HR.out] at ho6
    obtain ⟨A6, c6, rfl, hl6, hC6⟩ := Kd.R_reads ho6
    refine (new_calls A6 c6 R w6 hC6 hl6 (by rw [HR.out, List.length_append]; have := HZ.out; have := hx3.out; omega)).mono ?_
    rintro e w8 ⟨w7, g, rfl, hI8, hb7, hb8⟩
    clear HO4 HO5 HO6 HB4 HB5 hC6 hl6 ho6 hl3
    have HB7 := Aside0.mk ((HB3.out.trans (HB6.out.mono HB3.out.size)).trans (hb7.mono (Nat.le_trans HB3.out.size HB6.out.size)))
    clear HB3 HB6 HC3 hb7
    go_wp2_with fail
    have hMZ : ∀ c ∈ ([(37, fun W_ => IsS69 w7 W_ g R (13 + (s.size : Int) + (x.length : Int)) false), (29, fun W_ => IsS69 w7 W_ g R (13 + (s.size : Int) + (x.length : Int)) false), (20, fun W_ => IsS69 w7 W_ g R (13 + (s.size : Int)) false), (12, fun W_ => IsS69 w7 W_ g R (13 + (s.size : Int)) false), (6, fun W_ => IsS69 w7 W_ g R (9 + (s.size : Int)) false), (1, fun W_ => IsS69 w7 W_ g R 8 false)] : List (Nat × (World → Prop))), Reg.MonoZ c.2 := Reg.monoZ_cons ((fun _ _ hb h => IsS69.below h hb)) (Reg.monoZ_cons ((fun _ _ hb h => IsS69.below h hb)) (Reg.monoZ_cons ((fun _ _ hb h => IsS69.below h hb)) (Reg.monoZ_cons ((fun _ _ hb h => IsS69.below h hb)) (Reg.monoZ_cons ((fun _ _ hb h => IsS69.below h hb)) (Reg.monoZ_cons ((fun _ _ hb h => IsS69.below h hb)) Reg.monoZ_nil)))))
    have hM0 : Reg.MonoZ (fun W_ => IsS69 w7 W_ g R 0 false) := (fun _ _ hb h => IsS69.below h hb)
    refine Reg.region_z [some 30, some 31, some 32, some 33, some 34, some 35, some 36, some 37, some 38, some 39, some 40, some 41, some 42, some 43, some 44, some 45, some 46, some 47, some 48, some 49, some 50, some 51, some 52, some 53, some 54, some 55, some 56, some 57, some 58, some 59, some 60, some 61, some 62, some 63, some 64, some 65, some 66, some 67, some 68, some 69, some 70, some 71, some 72, some 6] [0, 1, 0, 7, 15, 31, 63, 31, 255, 511, 1023, 2047, 4095, 2047, 10239, 26623, 65535, 131071, 262143, 524287, 1048575, 524287, 2621439, 8388607, 16777215, 33554431, 67108863, 67108863, 201326591, 536870911, 1073741823, 67108863, 2214592511, 8589934591, 17179869183, 34359738367, 68719476735, 137438953471, 274877906943, 549755813887, 1099511627775, 2199023255551, 4398046511103, 8796093022207] (true, [([], []), ([0], [0]), ([], []), ([1, 2], [1, 2]), ([3, 1], [3]), ([4], [4]), ([5, 4, 4], [4, 5]), ([4], [4]), ([6, 7, 4], [4, 6, 7]), ([4, 8], [4, 8]), ([9, 6], [9]), ([10], [10]), ([11, 10, 10], [10, 11]), ([10], [10]), ([13, 10], [10, 13]), ([14, 10], [10, 14]), ([12, 15, 10], [10, 12, 15]), ([10, 16], [10, 16]), ([17, 12], [17]), ([18], [18]), ([19, 18, 18], [18, 19]), ([18], [18]), ([21, 18], [18, 21]), ([20, 22, 18], [18, 20, 22]), ([18, 23], [18, 23]), ([24, 20], [24]), ([25], [25]), ([25], [25]), ([27, 25], [25, 27]), ([26, 28, 25, 25], [25, 26, 28]), ([29, 25], [25, 29]), ([25], [25]), ([31, 25], [25, 31]), ([30, 32, 25], [25, 30, 32]), ([25, 33], [25, 33]), ([34, 29], [34]), ([35], [35]), ([36, 35, 35], [35, 36]), ([37, 35], [35, 37]), ([35, 38], [35, 38]), ([39, 37], [39]), ([40, 40], [40]), ([40, 41], [40, 41]), ([42, 41, 0, 1, 2, 3, 4, 5, 6, 7, 8, 9, 10, 11, 12, 13, 14, 15, 16, 17, 18, 19, 20, 21, 22, 23, 24, 25, 26, 27, 28, 29, 30, 31, 32, 33, 34, 35, 36, 37, 38, 39, 40, 41, 42], [42])]) (fun i => ([(fun _ v_ => v_ = (.pointer (some ⟨g, 0, none⟩))), (fun _ v_ => v_ = (.int .i64 n)), (fun _ v_ => v_ = (.int .i64 n)), (fun _ v_ => v_ = (.bool true)), (fun _ v_ => v_ = (.bool true)), (fun _ v_ => v_ = (.pointer (some ⟨g, 0, none⟩))), (fun _ v_ => v_ = (.string s)), (fun _ v_ => v_ = (.string s)), (fun _ v_ => v_ = (.bool true)), (fun _ v_ => v_ = (.bool true)), (fun _ v_ => v_ = (.bool true)), (fun _ v_ => v_ = (.pointer (some ⟨g, 0, none⟩))), (fun _ v_ => v_ = (.int .i64 (IntKind.u32.wrap n))), (fun _ v_ => v_ = (.int .i64 n)), (fun _ v_ => v_ = (.int .u32 (IntKind.u32.wrap n))), (fun _ v_ => v_ = (.int .i64 (IntKind.u32.wrap n))), (fun _ v_ => v_ = (.bool true)), (fun _ v_ => v_ = (.bool true)), (fun _ v_ => v_ = (.bool true)), (fun _ v_ => v_ = (.pointer (some ⟨g, 0, none⟩))), (fun _ v_ => v_ = (.int .i64 (x.length : Int))), (fun _ v_ => v_ = (.slice A x.length c)), (fun _ v_ => v_ = (.int .i64 (x.length : Int))), (fun _ v_ => v_ = (.bool true)), (fun _ v_ => v_ = (.bool true)), (fun _ v_ => v_ = (.bool true)), (fun _ v_ => v_ = (.pointer (some ⟨g, 0, none⟩))), (fun _ v_ => v_ = (.slice A x.length c)), (fun _ v_ => v_ = (.int .i64 (x.length : Int))), (fun w_ v_ => Kd.R (Kd.int .u8) 5 w_ w7.heap.size (fun k_ => True ∧ k_ ≠ g) v_ x), (fun _ v_ => v_ = (.string (strOfNums x))), (fun _ v_ => v_ = (.slice A x.length c)), (fun _ v_ => v_ = (.string (strOfNums x))), (fun _ v_ => v_ = (.bool true)), (fun _ v_ => v_ = (.bool true)), (fun _ v_ => v_ = (.bool true)), (fun _ v_ => v_ = (.pointer (some ⟨g, 0, none⟩))), (fun _ v_ => v_ = (.bool false)), (fun _ v_ => v_ = (.bool true)), (fun _ v_ => v_ = (.bool true)), (fun _ v_ => v_ = (.bool true)), (fun _ v_ => v_ = .bool true), (fun _ v_ => v_ = (.bool true)), (fun _ v_ => v_ = (.bool true))] : List (World → Value → Prop)).getD i (fun _ _ => False)) (Reg.Zc [(37, fun W_ => IsS69 w7 W_ g R (13 + (s.size : Int) + (x.length : Int)) false), (29, fun W_ => IsS69 w7 W_ g R (13 + (s.size : Int) + (x.length : Int)) false), (20, fun W_ => IsS69 w7 W_ g R (13 + (s.size : Int)) false), (12, fun W_ => IsS69 w7 W_ g R (13 + (s.size : Int)) false), (6, fun W_ => IsS69 w7 W_ g R (9 + (s.size : Int)) false), (1, fun W_ => IsS69 w7 W_ g R 8 false)] (fun W_ => IsS69 w7 W_ g R 0 false)) [g] w7
        (by kernel_rfl) (by kernel_rfl) (by kernel_rfl) (by kernel_rfl) (by kernel_rfl) (by decide) (by rfl) (hb8) (Reg.Zc.drew (fun m => hI8.drewN m)) (Reg.monoL_getD ?_) [0, 1, 2, 3, 4, 5, 6, 7, 8, 9, 10, 11, 12, 13, 14, 15, 16, 17, 18, 19, 20, 21, 22, 23, 24, 25, 26, 27, 28, 29, 30, 31, 32, 33, 34, 35, 36, 37, 38, 39, 40, 41, 42, 43] (by kernel_rfl) ?_ ?_ ?_
    · exact Reg.monoL_cons (Reg.monoL_eq _) (Reg.monoL_cons (Reg.monoL_eq _) (Reg.monoL_cons (Reg.monoL_eq _) (Reg.monoL_cons (Reg.monoL_eq _) (Reg.monoL_cons (Reg.monoL_eq _) (Reg.monoL_cons (Reg.monoL_eq _) (Reg.monoL_cons (Reg.monoL_eq _) (Reg.monoL_cons (Reg.monoL_eq _) (Reg.monoL_cons (Reg.monoL_eq _) (Reg.monoL_cons (Reg.monoL_eq _) (Reg.monoL_cons (Reg.monoL_eq _) (Reg.monoL_cons (Reg.monoL_eq _) (Reg.monoL_cons (Reg.monoL_eq _) (Reg.monoL_cons (Reg.monoL_eq _) (Reg.monoL_cons (Reg.monoL_eq _) (Reg.monoL_cons (Reg.monoL_eq _) (Reg.monoL_cons (Reg.monoL_eq _) (Reg.monoL_cons (Reg.monoL_eq _) (Reg.monoL_cons (Reg.monoL_eq _) (Reg.monoL_cons (Reg.monoL_eq _) (Reg.monoL_cons (Reg.monoL_eq _) (Reg.monoL_cons (Reg.monoL_eq _) (Reg.monoL_cons (Reg.monoL_eq _) (Reg.monoL_cons (Reg.monoL_eq _) (Reg.monoL_cons (Reg.monoL_eq _) (Reg.monoL_cons (Reg.monoL_eq _) (Reg.monoL_cons (Reg.monoL_eq _) (Reg.monoL_cons (Reg.monoL_eq _) (Reg.monoL_cons (Reg.monoL_eq _) (Reg.monoL_cons (Reg.monoL_R _ _ _ _ _ (fun k h => by simpa using h.2)) (Reg.monoL_cons (Reg.monoL_eq _) (Reg.monoL_cons (Reg.monoL_eq _) (Reg.monoL_cons (Reg.monoL_eq _) (Reg.monoL_cons (Reg.monoL_eq _) (Reg.monoL_cons (Reg.monoL_eq _) (Reg.monoL_cons (Reg.monoL_eq _) (Reg.monoL_cons (Reg.monoL_eq _) (Reg.monoL_cons (Reg.monoL_eq _) (Reg.monoL_cons (Reg.monoL_eq _) (Reg.monoL_cons (Reg.monoL_eq _) (Reg.monoL_cons (Reg.monoL_eq _) (Reg.monoL_cons (Reg.monoL_eq _) (Reg.monoL_cons (Reg.monoL_eq _) (Reg.monoL_cons (Reg.monoL_eq _) Reg.monoL_nil)))))))))))))))))))))))))))))))))))))))))))
    · skip
      refine Reg.zs_cons (Reg.ZStep.of_r hM0 hMZ (Reg.ne_chain (by rfl)) ?_) ?_
      · intro a w hb hs hel hon
        have e8 : a.tmps[8]? = some (.pointer (some ⟨g, 0, none⟩)) := (hel 8 (by decide)).trans rfl
        obtain ⟨_, g8⟩ := Array.getElem?_eq_some_iff.1 e8
        refine ⟨_, rfl, fun K hK => ?_⟩
        refine value_ (w1 := w) (v := .pointer (some ⟨g, 0, none⟩)) (by rfl) rfl ?_ (hK.out _ _ (Below.refl _ _) (rfl))
        · go_simp
          (try simp only [i64_w, g8])
          (try go_simp)
          try rfl
      refine Reg.zs_cons ?_ ?_
      · intro b a w hb hz hs hel hi hup hoff hon
        have f6 := hoff 6 (by kernel_rfl)
        have f12 := hoff 12 (by kernel_rfl)
        have f20 := hoff 20 (by kernel_rfl)
        have f29 := hoff 29 (by kernel_rfl)
        have f37 := hoff 37 (by kernel_rfl)
        have hz1 := hz
        simp only [Reg.Zc, f6, f12, f20, f29, f37, hi, Bool.false_eq_true, if_false, if_true] at hz1
        obtain ⟨_, e30, rfl⟩ := hon 0 30 (by kernel_rfl) rfl
        refine ⟨_, rfl, fun K hK => ?_⟩
        refine goes_ Try.func15 (by kernel_rfl) rfl #[.pointer (some ⟨g, 0, none⟩), .int .i64 8] (by rfl) rfl rfl (by first | (simp only [List.map_toArray, List.map_cons, List.map_nil, Act.eval, Array.getD_eq_getD_getElem?, Option.getD_some, e30]; done) | (simp only [List.map_toArray, List.map_cons, List.map_nil, Act.eval, Array.getD_eq_getD_getElem?, Option.getD_some, e30]; rfl) | rfl) ?_
        refine (num_calls g w7 w R 0 false 8 hz1 hb OB.out).mono ?_
        rw [N1.out]
        rintro e w2 ⟨rfl, hI2, hb2, hk2⟩
        exact ⟨_, rfl, hK.out _ _ hb2 (Reg.KeepL.of_keep hk2 (by simp)) (by simp only [Reg.Zc, up_self, up_ne (show 6 ≠ 1 by decide), f6, up_ne (show 12 ≠ 1 by decide), f12, up_ne (show 20 ≠ 1 by decide), f20, up_ne (show 29 ≠ 1 by decide), f29, up_ne (show 37 ≠ 1 by decide), f37, Bool.false_eq_true, if_false, if_true]; exact hI2) rfl⟩
      refine Reg.zs_cons (Reg.ZStep.of_r hM0 hMZ (Reg.ne_chain (by rfl)) ?_) ?_
      · intro a w hb hs hel hon
        have e1 : a.tmps[1]? = some (.int .i64 n) := (hel 1 (by decide)).trans rfl
        obtain ⟨_, g1⟩ := Array.getElem?_eq_some_iff.1 e1
        refine ⟨_, rfl, fun K hK => ?_⟩
        refine value_ (w1 := w) (v := .int .i64 n) (by rfl) rfl ?_ (hK.out _ _ (Below.refl _ _) (rfl))
        · go_simp
          (try simp only [i64_w, g1])
          (try go_simp)
          try rfl
      refine Reg.zs_cons (Reg.ZStep.of_r hM0 hMZ (Reg.ne_chain (by rfl)) ?_) ?_
      · intro a w hb hs hel hon
        obtain ⟨_, e31, rfl⟩ := hon 1 31 (by kernel_rfl) rfl
        obtain ⟨_, e32, rfl⟩ := hon 2 32 (by kernel_rfl) rfl
        obtain ⟨_, g31⟩ := Array.getElem?_eq_some_iff.1 e31
        obtain ⟨_, g32⟩ := Array.getElem?_eq_some_iff.1 e32
        refine ⟨_, rfl, fun K hK => ?_⟩
        refine value_ (w1 := w) (v := .bool true) (by rfl) rfl ?_ (hK.out _ _ (Below.refl _ _) (rfl))
        · go_simp
          (try simp only [i64_w, g31, g32])
          (try go_simp)
          try rfl
      refine Reg.zs_cons (Reg.ZStep.of_r hM0 hMZ (Reg.ne_chain (by rfl)) ?_) ?_
      · intro a w hb hs hel hon
        obtain ⟨_, e33, rfl⟩ := hon 3 33 (by kernel_rfl) rfl
        obtain ⟨_, g33⟩ := Array.getElem?_eq_some_iff.1 e33
        refine ⟨_, rfl, fun K hK => ?_⟩
        refine value_ (w1 := w) (v := .bool true) (by rfl) rfl ?_ (hK.out _ _ (Below.refl _ _) (rfl))
        · go_simp
          (try simp only [i64_w, g33])
          (try go_simp)
          try rfl
      refine Reg.zs_cons (Reg.ZStep.of_r hM0 hMZ (Reg.ne_chain (by rfl)) ?_) ?_
      · intro a w hb hs hel hon
        have e8 : a.tmps[8]? = some (.pointer (some ⟨g, 0, none⟩)) := (hel 8 (by decide)).trans rfl
        obtain ⟨_, e34, rfl⟩ := hon 4 34 (by kernel_rfl) rfl
        obtain ⟨_, g8⟩ := Array.getElem?_eq_some_iff.1 e8
        obtain ⟨_, g34⟩ := Array.getElem?_eq_some_iff.1 e34
        refine ⟨_, rfl, fun K hK => ?_⟩
        refine value_ (w1 := w) (v := .pointer (some ⟨g, 0, none⟩)) (wanted_on rfl rfl rfl e34) rfl ?_ (hK.out _ _ (Below.refl _ _) (rfl))
        · go_simp
          (try simp only [i64_w, g8, g34])
          (try go_simp)
          try rfl
      refine Reg.zs_cons ?_ ?_
      · intro b a w hb hz hs hel hi hup hoff hon
        have f12 := hoff 12 (by kernel_rfl)
        have f20 := hoff 20 (by kernel_rfl)
        have f29 := hoff 29 (by kernel_rfl)
        have f37 := hoff 37 (by kernel_rfl)
        have q1 := hup 1 (by kernel_rfl)
        have hz1 := hz
        simp only [Reg.Zc, f12, f20, f29, f37, hi, q1, Bool.false_eq_true, if_false, if_true] at hz1
        obtain ⟨_, e35, rfl⟩ := hon 5 35 (by kernel_rfl) rfl
        obtain ⟨_, e34, rfl⟩ := hon 4 34 (by kernel_rfl) rfl
        refine ⟨_, rfl, fun K hK => ?_⟩
        refine goes_ Try.func16 (by kernel_rfl) rfl #[.pointer (some ⟨g, 0, none⟩)] (wanted_on rfl rfl rfl e34) rfl rfl (by first | (simp only [List.map_toArray, List.map_cons, List.map_nil, Act.eval, Array.getD_eq_getD_getElem?, Option.getD_some, e35, e34]; done) | (simp only [List.map_toArray, List.map_cons, List.map_nil, Act.eval, Array.getD_eq_getD_getElem?, Option.getD_some, e35, e34]; rfl) | rfl) ?_
        refine (text_calls g w7 w R 8 false hz1 hb OB.out).mono ?_
        rw [N2.out]
        rintro e w2 ⟨rfl, hI2, hb2, hk2⟩
        exact ⟨_, rfl, hK.out _ _ hb2 (Reg.KeepL.of_keep hk2 (by simp)) (by simp only [Reg.Zc, up_self, up_ne (show 12 ≠ 6 by decide), f12, up_ne (show 20 ≠ 6 by decide), f20, up_ne (show 29 ≠ 6 by decide), f29, up_ne (show 37 ≠ 6 by decide), f37, Bool.false_eq_true, if_false, if_true]; exact hI2) rfl⟩
      refine Reg.zs_cons (Reg.ZStep.of_r hM0 hMZ (Reg.ne_chain (by rfl)) ?_) ?_
      · intro a w hb hs hel hon
        have e0 : a.tmps[0]? = some (.string s) := (hel 0 (by decide)).trans rfl
        obtain ⟨_, e34, rfl⟩ := hon 4 34 (by kernel_rfl) rfl
        obtain ⟨_, g0⟩ := Array.getElem?_eq_some_iff.1 e0
        obtain ⟨_, g34⟩ := Array.getElem?_eq_some_iff.1 e34
        refine ⟨_, rfl, fun K hK => ?_⟩
        refine value_ (w1 := w) (v := .string s) (wanted_on rfl rfl rfl e34) rfl ?_ (hK.out _ _ (Below.refl _ _) (rfl))
        · go_simp
          (try simp only [i64_w, g0, g34])
          (try go_simp)
          try rfl
      refine Reg.zs_cons (Reg.ZStep.of_r hM0 hMZ (Reg.ne_chain (by rfl)) ?_) ?_
      · intro a w hb hs hel hon
        obtain ⟨_, e36, rfl⟩ := hon 6 36 (by kernel_rfl) rfl
        obtain ⟨_, e37, rfl⟩ := hon 7 37 (by kernel_rfl) rfl
        obtain ⟨_, e34, rfl⟩ := hon 4 34 (by kernel_rfl) rfl
        obtain ⟨_, g36⟩ := Array.getElem?_eq_some_iff.1 e36
        obtain ⟨_, g37⟩ := Array.getElem?_eq_some_iff.1 e37
        obtain ⟨_, g34⟩ := Array.getElem?_eq_some_iff.1 e34
        refine ⟨_, rfl, fun K hK => ?_⟩
        refine value_ (w1 := w) (v := .bool true) (wanted_on rfl rfl rfl e34) rfl ?_ (hK.out _ _ (Below.refl _ _) (rfl))
        · go_simp
          (try simp only [i64_w, g36, g37, g34])
          (try go_simp)
          try rfl
      refine Reg.zs_cons (Reg.ZStep.of_r hM0 hMZ (Reg.ne_chain (by rfl)) ?_) ?_
      · intro a w hb hs hel hon
        obtain ⟨_, e34, rfl⟩ := hon 4 34 (by kernel_rfl) rfl
        obtain ⟨_, e38, rfl⟩ := hon 8 38 (by kernel_rfl) rfl
        obtain ⟨_, g34⟩ := Array.getElem?_eq_some_iff.1 e34
        obtain ⟨_, g38⟩ := Array.getElem?_eq_some_iff.1 e38
        refine ⟨_, rfl, fun K hK => ?_⟩
        refine value_ (w1 := w) (v := .bool true) (by rfl) rfl ?_ (hK.out _ _ (Below.refl _ _) (rfl))
        · go_simp
          (try simp only [i64_w, g34, g38])
          (try go_simp)
          try rfl
      refine Reg.zs_cons (Reg.ZStep.of_r hM0 hMZ (Reg.ne_chain (by rfl)) ?_) ?_
      · intro a w hb hs hel hon
        obtain ⟨_, e39, rfl⟩ := hon 9 39 (by kernel_rfl) rfl
        obtain ⟨_, g39⟩ := Array.getElem?_eq_some_iff.1 e39
        refine ⟨_, rfl, fun K hK => ?_⟩
        refine value_ (w1 := w) (v := .bool true) (by rfl) rfl ?_ (hK.out _ _ (Below.refl _ _) (rfl))
        · go_simp
          (try simp only [i64_w, g39])
          (try go_simp)
          try rfl
      refine Reg.zs_cons (Reg.ZStep.of_r hM0 hMZ (Reg.ne_chain (by rfl)) ?_) ?_
      · intro a w hb hs hel hon
        have e8 : a.tmps[8]? = some (.pointer (some ⟨g, 0, none⟩)) := (hel 8 (by decide)).trans rfl
        obtain ⟨_, e40, rfl⟩ := hon 10 40 (by kernel_rfl) rfl
        obtain ⟨_, g8⟩ := Array.getElem?_eq_some_iff.1 e8
        obtain ⟨_, g40⟩ := Array.getElem?_eq_some_iff.1 e40
        refine ⟨_, rfl, fun K hK => ?_⟩
        refine value_ (w1 := w) (v := .pointer (some ⟨g, 0, none⟩)) (wanted_on rfl rfl rfl e40) rfl ?_ (hK.out _ _ (Below.refl _ _) (rfl))
        · go_simp
          (try simp only [i64_w, g8, g40])
          (try go_simp)
          try rfl
      refine Reg.zs_cons ?_ ?_
      · intro b a w hb hz hs hel hi hup hoff hon
        have f20 := hoff 20 (by kernel_rfl)
        have f29 := hoff 29 (by kernel_rfl)
        have f37 := hoff 37 (by kernel_rfl)
        have q6 := hup 6 (by kernel_rfl)
        have hz1 := hz
        simp only [Reg.Zc, f20, f29, f37, hi, q6, Bool.false_eq_true, if_false, if_true] at hz1
        obtain ⟨_, e41, rfl⟩ := hon 11 41 (by kernel_rfl) rfl
        obtain ⟨_, e40, rfl⟩ := hon 10 40 (by kernel_rfl) rfl
        refine ⟨_, rfl, fun K hK => ?_⟩
        refine goes_ Try.func15 (by kernel_rfl) rfl #[.pointer (some ⟨g, 0, none⟩), .int .i64 4] (wanted_on rfl rfl rfl e40) rfl rfl (by first | (simp only [List.map_toArray, List.map_cons, List.map_nil, Act.eval, Array.getD_eq_getD_getElem?, Option.getD_some, e41, e40]; done) | (simp only [List.map_toArray, List.map_cons, List.map_nil, Act.eval, Array.getD_eq_getD_getElem?, Option.getD_some, e41, e40]; rfl) | rfl) ?_
        refine (num_calls g w7 w R (9 + (s.size : Int)) false 4 hz1 hb OB.out).mono ?_
        rw [N3.out]
        rintro e w2 ⟨rfl, hI2, hb2, hk2⟩
        exact ⟨_, rfl, hK.out _ _ hb2 (Reg.KeepL.of_keep hk2 (by simp)) (by simp only [Reg.Zc, up_self, up_ne (show 20 ≠ 12 by decide), f20, up_ne (show 29 ≠ 12 by decide), f29, up_ne (show 37 ≠ 12 by decide), f37, Bool.false_eq_true, if_false, if_true]; exact hI2) rfl⟩
      refine Reg.zs_cons (Reg.ZStep.of_r hM0 hMZ (Reg.ne_chain (by rfl)) ?_) ?_
      · intro a w hb hs hel hon
        have e1 : a.tmps[1]? = some (.int .i64 n) := (hel 1 (by decide)).trans rfl
        obtain ⟨_, e40, rfl⟩ := hon 10 40 (by kernel_rfl) rfl
        obtain ⟨_, g1⟩ := Array.getElem?_eq_some_iff.1 e1
        obtain ⟨_, g40⟩ := Array.getElem?_eq_some_iff.1 e40
        refine ⟨_, rfl, fun K hK => ?_⟩
        refine value_ (w1 := w) (v := .int .i64 n) (wanted_on rfl rfl rfl e40) rfl ?_ (hK.out _ _ (Below.refl _ _) (rfl))
        · go_simp
          (try simp only [i64_w, g1, g40])
          (try go_simp)
          try rfl
      refine Reg.zs_cons (Reg.ZStep.of_r hM0 hMZ (Reg.ne_chain (by rfl)) ?_) ?_
      · intro a w hb hs hel hon
        obtain ⟨_, e43, rfl⟩ := hon 13 43 (by kernel_rfl) rfl
        obtain ⟨_, e40, rfl⟩ := hon 10 40 (by kernel_rfl) rfl
        obtain ⟨_, g43⟩ := Array.getElem?_eq_some_iff.1 e43
        obtain ⟨_, g40⟩ := Array.getElem?_eq_some_iff.1 e40
        refine ⟨_, rfl, fun K hK => ?_⟩
        refine value_ (w1 := w) (v := .int .u32 (IntKind.u32.wrap n)) (wanted_on rfl rfl rfl e40) rfl ?_ (hK.out _ _ (Below.refl _ _) (rfl))
        · go_simp
          (try simp only [i64_w, g43, g40])
          (try go_simp)
          try rfl
      refine Reg.zs_cons (Reg.ZStep.of_r hM0 hMZ (Reg.ne_chain (by rfl)) ?_) ?_
      · intro a w hb hs hel hon
        obtain ⟨_, e44, rfl⟩ := hon 14 44 (by kernel_rfl) rfl
        obtain ⟨_, e40, rfl⟩ := hon 10 40 (by kernel_rfl) rfl
        obtain ⟨_, g44⟩ := Array.getElem?_eq_some_iff.1 e44
        obtain ⟨_, g40⟩ := Array.getElem?_eq_some_iff.1 e40
        refine ⟨_, rfl, fun K hK => ?_⟩
        have hw := W32.out
        refine value_ (w1 := w) (v := .int .i64 (IntKind.u32.wrap n)) (wanted_on rfl rfl rfl e40) rfl ?_ (hK.out _ _ (Below.refl _ _) (rfl))
        · go_simp
          (try simp only [i64_w, g44, g40])
          (try go_simp)
          try rfl
      refine Reg.zs_cons (Reg.ZStep.of_r hM0 hMZ (Reg.ne_chain (by rfl)) ?_) ?_
      · intro a w hb hs hel hon
        obtain ⟨_, e42, rfl⟩ := hon 12 42 (by kernel_rfl) rfl
        obtain ⟨_, e45, rfl⟩ := hon 15 45 (by kernel_rfl) rfl
        obtain ⟨_, e40, rfl⟩ := hon 10 40 (by kernel_rfl) rfl
        obtain ⟨_, g42⟩ := Array.getElem?_eq_some_iff.1 e42
        obtain ⟨_, g45⟩ := Array.getElem?_eq_some_iff.1 e45
        obtain ⟨_, g40⟩ := Array.getElem?_eq_some_iff.1 e40
        refine ⟨_, rfl, fun K hK => ?_⟩
        refine value_ (w1 := w) (v := .bool true) (wanted_on rfl rfl rfl e40) rfl ?_ (hK.out _ _ (Below.refl _ _) (rfl))
        · go_simp
          (try simp only [i64_w, g42, g45, g40])
          (try go_simp)
          try rfl
      refine Reg.zs_cons (Reg.ZStep.of_r hM0 hMZ (Reg.ne_chain (by rfl)) ?_) ?_
      · intro a w hb hs hel hon
        obtain ⟨_, e40, rfl⟩ := hon 10 40 (by kernel_rfl) rfl
        obtain ⟨_, e46, rfl⟩ := hon 16 46 (by kernel_rfl) rfl
        obtain ⟨_, g40⟩ := Array.getElem?_eq_some_iff.1 e40
        obtain ⟨_, g46⟩ := Array.getElem?_eq_some_iff.1 e46
        refine ⟨_, rfl, fun K hK => ?_⟩
        refine value_ (w1 := w) (v := .bool true) (by rfl) rfl ?_ (hK.out _ _ (Below.refl _ _) (rfl))
        · go_simp
          (try simp only [i64_w, g40, g46])
          (try go_simp)
          try rfl
      refine Reg.zs_cons (Reg.ZStep.of_r hM0 hMZ (Reg.ne_chain (by rfl)) ?_) ?_
      · intro a w hb hs hel hon
        obtain ⟨_, e47, rfl⟩ := hon 17 47 (by kernel_rfl) rfl
        obtain ⟨_, g47⟩ := Array.getElem?_eq_some_iff.1 e47
        refine ⟨_, rfl, fun K hK => ?_⟩
        refine value_ (w1 := w) (v := .bool true) (by rfl) rfl ?_ (hK.out _ _ (Below.refl _ _) (rfl))
        · go_simp
          (try simp only [i64_w, g47])
          (try go_simp)
          try rfl
      refine Reg.zs_cons (Reg.ZStep.of_r hM0 hMZ (Reg.ne_chain (by rfl)) ?_) ?_
      · intro a w hb hs hel hon
        have e8 : a.tmps[8]? = some (.pointer (some ⟨g, 0, none⟩)) := (hel 8 (by decide)).trans rfl
        obtain ⟨_, e48, rfl⟩ := hon 18 48 (by kernel_rfl) rfl
        obtain ⟨_, g8⟩ := Array.getElem?_eq_some_iff.1 e8
        obtain ⟨_, g48⟩ := Array.getElem?_eq_some_iff.1 e48
        refine ⟨_, rfl, fun K hK => ?_⟩
        refine value_ (w1 := w) (v := .pointer (some ⟨g, 0, none⟩)) (wanted_on rfl rfl rfl e48) rfl ?_ (hK.out _ _ (Below.refl _ _) (rfl))
        · go_simp
          (try simp only [i64_w, g8, g48])
          (try go_simp)
          try rfl
      refine Reg.zs_cons ?_ ?_
      · intro b a w hb hz hs hel hi hup hoff hon
        have f29 := hoff 29 (by kernel_rfl)
        have f37 := hoff 37 (by kernel_rfl)
        have q12 := hup 12 (by kernel_rfl)
        have hz1 := hz
        simp only [Reg.Zc, f29, f37, hi, q12, Bool.false_eq_true, if_false, if_true] at hz1
        obtain ⟨_, e49, rfl⟩ := hon 19 49 (by kernel_rfl) rfl
        obtain ⟨_, e48, rfl⟩ := hon 18 48 (by kernel_rfl) rfl
        refine ⟨_, rfl, fun K hK => ?_⟩
        refine goes_ Try.func17 (by kernel_rfl) rfl #[.pointer (some ⟨g, 0, none⟩)] (wanted_on rfl rfl rfl e48) rfl rfl (by first | (simp only [List.map_toArray, List.map_cons, List.map_nil, Act.eval, Array.getD_eq_getD_getElem?, Option.getD_some, e49, e48]; done) | (simp only [List.map_toArray, List.map_cons, List.map_nil, Act.eval, Array.getD_eq_getD_getElem?, Option.getD_some, e49, e48]; rfl) | rfl) ?_
        refine (left_calls g w7 w R (13 + (s.size : Int)) false hz1).mono ?_
        simp only [Bool.false_eq_true, if_false, N4.out]
        rintro e w2 ⟨rfl, nd, rfl⟩
        exact ⟨_, rfl, hK.out _ _ (pw_below_drewN hb nd) (Reg.KeepL.of_below _ (pw_below_drewN (Below.refl _ _) nd)) (by simp only [Reg.Zc, up_self, up_ne (show 29 ≠ 20 by decide), f29, up_ne (show 37 ≠ 20 by decide), f37, Bool.false_eq_true, if_false, if_true]; exact (hz1.drewN nd)) rfl⟩
      refine Reg.zs_cons (Reg.ZStep.of_r hM0 hMZ (Reg.ne_chain (by rfl)) ?_) ?_
      · intro a w hb hs hel hon
        have e2 : a.tmps[2]? = some (.slice A x.length c) := (hel 2 (by decide)).trans rfl
        obtain ⟨_, e48, rfl⟩ := hon 18 48 (by kernel_rfl) rfl
        obtain ⟨_, g2⟩ := Array.getElem?_eq_some_iff.1 e2
        obtain ⟨_, g48⟩ := Array.getElem?_eq_some_iff.1 e48
        refine ⟨_, rfl, fun K hK => ?_⟩
        refine value_ (w1 := w) (v := .slice A x.length c) (wanted_on rfl rfl rfl e48) rfl ?_ (hK.out _ _ (Below.refl _ _) (rfl))
        · go_simp
          (try simp only [i64_w, g2, g48])
          (try go_simp)
          try rfl
      refine Reg.zs_cons (Reg.ZStep.of_r hM0 hMZ (Reg.ne_chain (by rfl)) ?_) ?_
      · intro a w hb hs hel hon
        obtain ⟨_, e51, rfl⟩ := hon 21 51 (by kernel_rfl) rfl
        obtain ⟨_, e48, rfl⟩ := hon 18 48 (by kernel_rfl) rfl
        obtain ⟨_, g51⟩ := Array.getElem?_eq_some_iff.1 e51
        obtain ⟨_, g48⟩ := Array.getElem?_eq_some_iff.1 e48
        refine ⟨_, rfl, fun K hK => ?_⟩
        refine value_ (w1 := w) (v := .int .i64 (x.length : Int)) (wanted_on rfl rfl rfl e48) rfl ?_ (hK.out _ _ (Below.refl _ _) (rfl))
        · go_simp
          (try simp only [i64_w, g51, g48])
          (try go_simp)
          try rfl
      refine Reg.zs_cons (Reg.ZStep.of_r hM0 hMZ (Reg.ne_chain (by rfl)) ?_) ?_
      · intro a w hb hs hel hon
        obtain ⟨_, e50, rfl⟩ := hon 20 50 (by kernel_rfl) rfl
        obtain ⟨_, e52, rfl⟩ := hon 22 52 (by kernel_rfl) rfl
        obtain ⟨_, e48, rfl⟩ := hon 18 48 (by kernel_rfl) rfl
        obtain ⟨_, g50⟩ := Array.getElem?_eq_some_iff.1 e50
        obtain ⟨_, g52⟩ := Array.getElem?_eq_some_iff.1 e52
        obtain ⟨_, g48⟩ := Array.getElem?_eq_some_iff.1 e48
        refine ⟨_, rfl, fun K hK => ?_⟩
        refine value_ (w1 := w) (v := .bool true) (wanted_on rfl rfl rfl e48) rfl ?_ (hK.out _ _ (Below.refl _ _) (rfl))
        · go_simp
          (try simp only [i64_w, g50, g52, g48])
          (try go_simp)
          try rfl
      refine Reg.zs_cons (Reg.ZStep.of_r hM0 hMZ (Reg.ne_chain (by rfl)) ?_) ?_
      · intro a w hb hs hel hon
        obtain ⟨_, e48, rfl⟩ := hon 18 48 (by kernel_rfl) rfl
        obtain ⟨_, e53, rfl⟩ := hon 23 53 (by kernel_rfl) rfl
        obtain ⟨_, g48⟩ := Array.getElem?_eq_some_iff.1 e48
        obtain ⟨_, g53⟩ := Array.getElem?_eq_some_iff.1 e53
        refine ⟨_, rfl, fun K hK => ?_⟩
        refine value_ (w1 := w) (v := .bool true) (by rfl) rfl ?_ (hK.out _ _ (Below.refl _ _) (rfl))
        · go_simp
          (try simp only [i64_w, g48, g53])
          (try go_simp)
          try rfl
      refine Reg.zs_cons (Reg.ZStep.of_r hM0 hMZ (Reg.ne_chain (by rfl)) ?_) ?_
      · intro a w hb hs hel hon
        obtain ⟨_, e54, rfl⟩ := hon 24 54 (by kernel_rfl) rfl
        obtain ⟨_, g54⟩ := Array.getElem?_eq_some_iff.1 e54
        refine ⟨_, rfl, fun K hK => ?_⟩
        refine value_ (w1 := w) (v := .bool true) (by rfl) rfl ?_ (hK.out _ _ (Below.refl _ _) (rfl))
        · go_simp
          (try simp only [i64_w, g54])
          (try go_simp)
          try rfl
      refine Reg.zs_cons (Reg.ZStep.of_r hM0 hMZ (Reg.ne_chain (by rfl)) ?_) ?_
      · intro a w hb hs hel hon
        have e8 : a.tmps[8]? = some (.pointer (some ⟨g, 0, none⟩)) := (hel 8 (by decide)).trans rfl
        obtain ⟨_, e55, rfl⟩ := hon 25 55 (by kernel_rfl) rfl
        obtain ⟨_, g8⟩ := Array.getElem?_eq_some_iff.1 e8
        obtain ⟨_, g55⟩ := Array.getElem?_eq_some_iff.1 e55
        refine ⟨_, rfl, fun K hK => ?_⟩
        refine value_ (w1 := w) (v := .pointer (some ⟨g, 0, none⟩)) (wanted_on rfl rfl rfl e55) rfl ?_ (hK.out _ _ (Below.refl _ _) (rfl))
        · go_simp
          (try simp only [i64_w, g8, g55])
          (try go_simp)
          try rfl
      refine Reg.zs_cons (Reg.ZStep.of_r hM0 hMZ (Reg.ne_chain (by rfl)) ?_) ?_
      · intro a w hb hs hel hon
        have e2 : a.tmps[2]? = some (.slice A x.length c) := (hel 2 (by decide)).trans rfl
        obtain ⟨_, e55, rfl⟩ := hon 25 55 (by kernel_rfl) rfl
        obtain ⟨_, g2⟩ := Array.getElem?_eq_some_iff.1 e2
        obtain ⟨_, g55⟩ := Array.getElem?_eq_some_iff.1 e55
        refine ⟨_, rfl, fun K hK => ?_⟩
        refine value_ (w1 := w) (v := .slice A x.length c) (wanted_on rfl rfl rfl e55) rfl ?_ (hK.out _ _ (Below.refl _ _) (rfl))
        · go_simp
          (try simp only [i64_w, g2, g55])
          (try go_simp)
          try rfl
      refine Reg.zs_cons (Reg.ZStep.of_r hM0 hMZ (Reg.ne_chain (by rfl)) ?_) ?_
      · intro a w hb hs hel hon
        obtain ⟨_, e57, rfl⟩ := hon 27 57 (by kernel_rfl) rfl
        obtain ⟨_, e55, rfl⟩ := hon 25 55 (by kernel_rfl) rfl
        obtain ⟨_, g57⟩ := Array.getElem?_eq_some_iff.1 e57
        obtain ⟨_, g55⟩ := Array.getElem?_eq_some_iff.1 e55
        refine ⟨_, rfl, fun K hK => ?_⟩
        refine value_ (w1 := w) (v := .int .i64 (x.length : Int)) (wanted_on rfl rfl rfl e55) rfl ?_ (hK.out _ _ (Below.refl _ _) (rfl))
        · go_simp
          (try simp only [i64_w, g57, g55])
          (try go_simp)
          try rfl
      refine Reg.zs_cons ?_ ?_
      · intro b a w hb hz hs hel hi hup hoff hon
        have f37 := hoff 37 (by kernel_rfl)
        have q20 := hup 20 (by kernel_rfl)
        have hz1 := hz
        simp only [Reg.Zc, f37, hi, q20, Bool.false_eq_true, if_false, if_true] at hz1
        obtain ⟨_, e56, rfl⟩ := hon 26 56 (by kernel_rfl) rfl
        obtain ⟨_, e58, rfl⟩ := hon 28 58 (by kernel_rfl) rfl
        obtain ⟨_, e55, rfl⟩ := hon 25 55 (by kernel_rfl) rfl
        refine ⟨_, rfl, fun K hK => ?_⟩
        refine goes_ Try.func18 (by kernel_rfl) rfl #[.pointer (some ⟨g, 0, none⟩), .int .i64 (x.length : Int)] (wanted_on rfl rfl rfl e55) rfl rfl (by first | (simp only [List.map_toArray, List.map_cons, List.map_nil, Act.eval, Array.getD_eq_getD_getElem?, Option.getD_some, e56, e58, e55]; done) | (simp only [List.map_toArray, List.map_cons, List.map_nil, Act.eval, Array.getD_eq_getD_getElem?, Option.getD_some, e56, e58, e55]; rfl) | rfl) ?_
        refine (take_calls g w7 w R (13 + (s.size : Int)) false (x.length : Int) hz1 hb OB.out).mono ?_
        rw [N5.out]
        rintro e w2 ⟨v, rfl, ho, hI2, hb2, hk2⟩
        exact ⟨_, rfl, hK.out _ _ hb2 (Reg.KeepL.of_keep hk2 (by simp)) (by simp only [Reg.Zc, up_self, up_ne (show 37 ≠ 29 by decide), f37, Bool.false_eq_true, if_false, if_true]; exact hI2) (Kd.R_lower (IsS69.apart hI2 ho (by decide)) hb.size)⟩
      refine Reg.zs_cons (Reg.ZStep.of_r hM0 hMZ (Reg.ne_chain (by rfl)) ?_) ?_
      · intro a w hb hs hel hon
        obtain ⟨x59, e59, hR_29⟩ := hon 29 59 (by kernel_rfl) rfl
        obtain ⟨_, e55, rfl⟩ := hon 25 55 (by kernel_rfl) rfl
        obtain ⟨_, g59⟩ := Array.getElem?_eq_some_iff.1 e59
        obtain ⟨_, g55⟩ := Array.getElem?_eq_some_iff.1 e55
        refine ⟨_, rfl, fun K hK => ?_⟩
        have hs := own_string (P := Try.prog) Try.underlying22 Try.underlying5 Try.underlying9 (Kd.own_of_R hR_29)
        refine value_ (w1 := w) (v := .string (strOfNums x)) (wanted_on rfl rfl rfl e55) rfl ?_ (hK.out _ _ (Below.refl _ _) (rfl))
        · go_simp
          (try simp only [i64_w, g59, g55])
          (try go_simp)
          try rfl
      refine Reg.zs_cons (Reg.ZStep.of_r hM0 hMZ (Reg.ne_chain (by rfl)) ?_) ?_
      · intro a w hb hs hel hon
        have e2 : a.tmps[2]? = some (.slice A x.length c) := (hel 2 (by decide)).trans rfl
        obtain ⟨_, e55, rfl⟩ := hon 25 55 (by kernel_rfl) rfl
        obtain ⟨_, g2⟩ := Array.getElem?_eq_some_iff.1 e2
        obtain ⟨_, g55⟩ := Array.getElem?_eq_some_iff.1 e55
        refine ⟨_, rfl, fun K hK => ?_⟩
        refine value_ (w1 := w) (v := .slice A x.length c) (wanted_on rfl rfl rfl e55) rfl ?_ (hK.out _ _ (Below.refl _ _) (rfl))
        · go_simp
          (try simp only [i64_w, g2, g55])
          (try go_simp)
          try rfl
      refine Reg.zs_cons (Reg.ZStep.of_r hM0 hMZ (Reg.ne_chain (by rfl)) ?_) ?_
      · intro a w hb hs hel hon
        obtain ⟨_, e61, rfl⟩ := hon 31 61 (by kernel_rfl) rfl
        obtain ⟨_, e55, rfl⟩ := hon 25 55 (by kernel_rfl) rfl
        obtain ⟨_, g61⟩ := Array.getElem?_eq_some_iff.1 e61
        obtain ⟨_, g55⟩ := Array.getElem?_eq_some_iff.1 e55
        refine ⟨_, rfl, fun K hK => ?_⟩
        have hs := Kd.C_string (c := c) (P := Try.prog) Try.underlying22 Try.underlying5 Try.underlying9 (Kd.C_below HC.out (HB7.out.trans (hb.mono HB7.out.size)))
        refine value_ (w1 := w) (v := .string (strOfNums x)) (wanted_on rfl rfl rfl e55) rfl ?_ (hK.out _ _ (Below.refl _ _) (rfl))
        · go_simp
          (try simp only [i64_w, g61, g55])
          (try go_simp)
          try rfl
      refine Reg.zs_cons (Reg.ZStep.of_r hM0 hMZ (Reg.ne_chain (by rfl)) ?_) ?_
      · intro a w hb hs hel hon
        obtain ⟨_, e60, rfl⟩ := hon 30 60 (by kernel_rfl) rfl
        obtain ⟨_, e62, rfl⟩ := hon 32 62 (by kernel_rfl) rfl
        obtain ⟨_, e55, rfl⟩ := hon 25 55 (by kernel_rfl) rfl
        obtain ⟨_, g60⟩ := Array.getElem?_eq_some_iff.1 e60
        obtain ⟨_, g62⟩ := Array.getElem?_eq_some_iff.1 e62
        obtain ⟨_, g55⟩ := Array.getElem?_eq_some_iff.1 e55
        refine ⟨_, rfl, fun K hK => ?_⟩
        refine value_ (w1 := w) (v := .bool true) (wanted_on rfl rfl rfl e55) rfl ?_ (hK.out _ _ (Below.refl _ _) (rfl))
        · go_simp
          (try simp only [i64_w, g60, g62, g55])
          (try go_simp)
          try rfl
      refine Reg.zs_cons (Reg.ZStep.of_r hM0 hMZ (Reg.ne_chain (by rfl)) ?_) ?_
      · intro a w hb hs hel hon
        obtain ⟨_, e55, rfl⟩ := hon 25 55 (by kernel_rfl) rfl
        obtain ⟨_, e63, rfl⟩ := hon 33 63 (by kernel_rfl) rfl
        obtain ⟨_, g55⟩ := Array.getElem?_eq_some_iff.1 e55
        obtain ⟨_, g63⟩ := Array.getElem?_eq_some_iff.1 e63
        refine ⟨_, rfl, fun K hK => ?_⟩
        refine value_ (w1 := w) (v := .bool true) (by rfl) rfl ?_ (hK.out _ _ (Below.refl _ _) (rfl))
        · go_simp
          (try simp only [i64_w, g55, g63])
          (try go_simp)
          try rfl
      refine Reg.zs_cons (Reg.ZStep.of_r hM0 hMZ (Reg.ne_chain (by rfl)) ?_) ?_
      · intro a w hb hs hel hon
        obtain ⟨_, e64, rfl⟩ := hon 34 64 (by kernel_rfl) rfl
        obtain ⟨_, g64⟩ := Array.getElem?_eq_some_iff.1 e64
        refine ⟨_, rfl, fun K hK => ?_⟩
        refine value_ (w1 := w) (v := .bool true) (by rfl) rfl ?_ (hK.out _ _ (Below.refl _ _) (rfl))
        · go_simp
          (try simp only [i64_w, g64])
          (try go_simp)
          try rfl
      refine Reg.zs_cons (Reg.ZStep.of_r hM0 hMZ (Reg.ne_chain (by rfl)) ?_) ?_
      · intro a w hb hs hel hon
        have e8 : a.tmps[8]? = some (.pointer (some ⟨g, 0, none⟩)) := (hel 8 (by decide)).trans rfl
        obtain ⟨_, e65, rfl⟩ := hon 35 65 (by kernel_rfl) rfl
        obtain ⟨_, g8⟩ := Array.getElem?_eq_some_iff.1 e8
        obtain ⟨_, g65⟩ := Array.getElem?_eq_some_iff.1 e65
        refine ⟨_, rfl, fun K hK => ?_⟩
        refine value_ (w1 := w) (v := .pointer (some ⟨g, 0, none⟩)) (wanted_on rfl rfl rfl e65) rfl ?_ (hK.out _ _ (Below.refl _ _) (rfl))
        · go_simp
          (try simp only [i64_w, g8, g65])
          (try go_simp)
          try rfl
      refine Reg.zs_cons ?_ ?_
      · intro b a w hb hz hs hel hi hup hoff hon
        have q29 := hup 29 (by kernel_rfl)
        have hz1 := hz
        simp only [Reg.Zc, hi, q29, Bool.false_eq_true, if_false, if_true] at hz1
        obtain ⟨_, e66, rfl⟩ := hon 36 66 (by kernel_rfl) rfl
        obtain ⟨_, e65, rfl⟩ := hon 35 65 (by kernel_rfl) rfl
        refine ⟨_, rfl, fun K hK => ?_⟩
        refine goes_ Try.func19 (by kernel_rfl) rfl #[.pointer (some ⟨g, 0, none⟩)] (wanted_on rfl rfl rfl e65) rfl rfl (by first | (simp only [List.map_toArray, List.map_cons, List.map_nil, Act.eval, Array.getD_eq_getD_getElem?, Option.getD_some, e66, e65]; done) | (simp only [List.map_toArray, List.map_cons, List.map_nil, Act.eval, Array.getD_eq_getD_getElem?, Option.getD_some, e66, e65]; rfl) | rfl) ?_
        refine (bad_calls g w7 w R (13 + (s.size : Int) + (x.length : Int)) false hz1).mono ?_
        rintro e w2 ⟨rfl, nd, rfl⟩
        exact ⟨_, rfl, hK.out _ _ (pw_below_drewN hb nd) (Reg.KeepL.of_below _ (pw_below_drewN (Below.refl _ _) nd)) (by simp only [Reg.Zc, up_self, Bool.false_eq_true, if_false, if_true]; exact (hz1.drewN nd)) rfl⟩
      refine Reg.zs_cons (Reg.ZStep.of_r hM0 hMZ (Reg.ne_chain (by rfl)) ?_) ?_
      · intro a w hb hs hel hon
        obtain ⟨_, e67, rfl⟩ := hon 37 67 (by kernel_rfl) rfl
        obtain ⟨_, e65, rfl⟩ := hon 35 65 (by kernel_rfl) rfl
        obtain ⟨_, g67⟩ := Array.getElem?_eq_some_iff.1 e67
        obtain ⟨_, g65⟩ := Array.getElem?_eq_some_iff.1 e65
        refine ⟨_, rfl, fun K hK => ?_⟩
        refine value_ (w1 := w) (v := .bool true) (wanted_on rfl rfl rfl e65) rfl ?_ (hK.out _ _ (Below.refl _ _) (rfl))
        · go_simp
          (try simp only [i64_w, g67, g65])
          (try go_simp)
          try rfl
      refine Reg.zs_cons (Reg.ZStep.of_r hM0 hMZ (Reg.ne_chain (by rfl)) ?_) ?_
      · intro a w hb hs hel hon
        obtain ⟨_, e65, rfl⟩ := hon 35 65 (by kernel_rfl) rfl
        obtain ⟨_, e68, rfl⟩ := hon 38 68 (by kernel_rfl) rfl
        obtain ⟨_, g65⟩ := Array.getElem?_eq_some_iff.1 e65
        obtain ⟨_, g68⟩ := Array.getElem?_eq_some_iff.1 e68
        refine ⟨_, rfl, fun K hK => ?_⟩
        refine value_ (w1 := w) (v := .bool true) (by rfl) rfl ?_ (hK.out _ _ (Below.refl _ _) (rfl))
        · go_simp
          (try simp only [i64_w, g65, g68])
          (try go_simp)
          try rfl
      refine Reg.zs_cons (Reg.ZStep.of_r hM0 hMZ (Reg.ne_chain (by rfl)) ?_) ?_
      · intro a w hb hs hel hon
        obtain ⟨_, e69, rfl⟩ := hon 39 69 (by kernel_rfl) rfl
        obtain ⟨_, g69⟩ := Array.getElem?_eq_some_iff.1 e69
        refine ⟨_, rfl, fun K hK => ?_⟩
        refine value_ (w1 := w) (v := .bool true) (by rfl) rfl ?_ (hK.out _ _ (Below.refl _ _) (rfl))
        · go_simp
          (try simp only [i64_w, g69])
          (try go_simp)
          try rfl
      refine Reg.zs_cons (Reg.ZStep.of_r hM0 hMZ (Reg.ne_chain (by rfl)) ?_) ?_
      · intro a w hb hs hel hon
        obtain ⟨_, e70, rfl⟩ := hon 40 70 (by kernel_rfl) rfl
        refine ⟨_, rfl, fun K hK => ?_⟩
        refine goes_ Try.func9 (by kernel_rfl) rfl #[] (wanted_on rfl rfl rfl e70) rfl rfl (by first | (simp only [List.map_toArray, List.map_cons, List.map_nil, Act.eval, Array.getD_eq_getD_getElem?, Option.getD_some, e70]; done) | (simp only [List.map_toArray, List.map_cons, List.map_nil, Act.eval, Array.getD_eq_getD_getElem?, Option.getD_some, e70]; rfl) | rfl) ?_
        refine (awake03 w).mono ?_
        rintro e w2 ⟨rfl, hb2⟩
        exact ⟨_, rfl, hK.out _ _ hb2 rfl⟩
      refine Reg.zs_cons (Reg.ZStep.of_r hM0 hMZ (Reg.ne_chain (by rfl)) ?_) ?_
      · intro a w hb hs hel hon
        obtain ⟨_, e70, rfl⟩ := hon 40 70 (by kernel_rfl) rfl
        obtain ⟨_, e71, rfl⟩ := hon 41 71 (by kernel_rfl) rfl
        obtain ⟨_, g70⟩ := Array.getElem?_eq_some_iff.1 e70
        obtain ⟨_, g71⟩ := Array.getElem?_eq_some_iff.1 e71
        refine ⟨_, rfl, fun K hK => ?_⟩
        refine value_ (w1 := w) (v := .bool true) (by rfl) rfl ?_ (hK.out _ _ (Below.refl _ _) (rfl))
        · go_simp
          (try simp only [i64_w, g70, g71])
          (try go_simp)
          try rfl
      refine Reg.zs_cons (Reg.ZStep.of_r hM0 hMZ (Reg.ne_chain (by rfl)) ?_) ?_
      · intro a w hb hs hel hon
        obtain ⟨_, e72, rfl⟩ := hon 42 72 (by kernel_rfl) rfl
        obtain ⟨_, g72⟩ := Array.getElem?_eq_some_iff.1 e72
        refine ⟨_, rfl, fun K hK => ?_⟩
        refine value_ (w1 := w) (v := .bool true) (by rfl) rfl ?_ (hK.out _ _ (Below.refl _ _) (rfl))
        · go_simp
          (try simp only [i64_w, g72])
          (try go_simp)
          try rfl
      exact Reg.zs_nil
    · intro a w hI
      rename_i K_ hK_
      refine hK_ a w ?_
      go_wp2
      obtain ⟨v6, e6, rfl⟩ := hI.vals 43 6 rfl rfl
      exact Reg.ret_slot (R := fun e w' => e = .returned (.bool true) ∧ Below _ _ w') (by kernel_rfl) hI.defers e6 ⟨rfl, HB7.out.trans (hI.below.mono HB7.out.size)⟩
    · intro b w hall h
      have hc := hall 37 (by kernel_rfl)
      unfold Reg.Zc at h ⊢
      rw [if_pos hc] at h
      rw [if_pos rfl]
      exact h
end Go.Proofs.Ythbcliofjfhmbaa
