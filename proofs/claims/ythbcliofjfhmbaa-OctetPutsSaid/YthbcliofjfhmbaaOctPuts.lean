/- The walk of OctetPuts: for any bytes and numbers its call returns true and leaves what was there; the bytes lie where the argument says. -/
import Derived.Test.YthbcliofjfhmbaaOctPure
import Derived.Test.YthbcliofjfhmbaaOctAwake
import Derived.Test.YthbcliofjfhmbaaReg
namespace Go.Proofs.Ythbcliofjfhmbaa
open Go.RowKit Go.Proofs.YthbcliofjfhmbaaW.PrintWords Go.Proofs.YthbcliofjfhmbaaW.PrintLast Go.Proofs.YthbcliofjfhmbaaW.PrintMore Go.Proofs.Ythbcliofjfhmbaa.Given Go.Proofs.Ythbcliofjfhmbaa.POct
set_option linter.unusedVariables false
set_option linter.unusedSimpArgs false
set_option maxHeartbeats 2000000 in
theorem OctetPuts_walk (A : Option Addr) (c : Nat) (x : List Int) (a1 a2 : Int) (w : World) (hC : (Kd.int .u8).C w A x.length x) (hle : x.length ≤ c) (wf : ∀ a ∈ x, (Lit.int .u8 a).wf = true) (w1 : (Lit.int .i64 a1).wf = true) (w2 : (Lit.int .i64 a2).wf = true) :
    Calls Try.prog 3 #[.slice A x.length c, .int .i64 a1, .int .i64 a2] w fun e w' => e = .returned (.bool true) ∧ Below w.heap.size w w' := by
  have HC := Aside0.mk hC
  clear hC wf
  by_cases h4 : x.length > 400
  · go_enter Try.func3, Try.ntmps3
    go_wp2_with fail
    refine (awake03 w).mono ?_
    rintro e w1 ⟨rfl, hb⟩
    go_wp2
    go_ret
    exact ⟨rfl, hb⟩
  · obtain ⟨r1, hr1⟩ : ∃ r, r = x ++ le (mx 0 (mn a1 8)).toNat a2 := ⟨_, rfl⟩
    obtain ⟨r2, hr2⟩ : ∃ r, r = x ++ le 1 ((min (strOfNums x).size 255 : Nat) : Int) ++ bytesOf (textOf (strOfNums x)) := ⟨_, rfl⟩
    have hz : (strOfNums x).size = x.length := by simp [strOfNums, ByteArray.size]
    have HP1 : Aside0 (octet_Put.f x a1 a2 = some r1) := ⟨by unfold octet_Put.f; rw [if_pos (by omega), hr1]⟩
    have HT1 : Aside0 (octet_Text.f x (strOfNums x) = some r2) := ⟨by unfold octet_Text.f; rw [if_pos (by omega), hr2]⟩
    obtain ⟨k1, HP2⟩ := ref_put x a1 a2 (by omega)
    rw [← hr1] at HP2
    obtain ⟨k2, HT2⟩ := ref_text x (strOfNums x) (by omega)
    rw [← hr2] at HT2
    have HP2 := Aside0.mk HP2
    have HT2 := Aside0.mk HT2
    clear hr1 hr2 hz
    go_enter Try.func3, Try.ntmps3
    go_wp2_with fail
    refine Reg.region_any [some 11, some 12, some 13, some 14, some 15, some 16, some 17, some 18, some 19, some 20, some 21, some 22, some 23, some 24, some 25, some 26, some 27, some 28, some 29, some 30, some 31, some 32, some 33, some 34, some 35, some 36, some 37, some 6] [0, 0, 0, 7, 15, 0, 0, 0, 239, 495, 1023, 2047, 4095, 4095, 12287, 32767, 65535, 4095, 4095, 266239, 983039, 2031615, 4194303, 8388607, 16777215, 33554431, 67108863, 134217727] (true, [([], []), ([], []), ([], []), ([0, 1, 2], [0, 1, 2]), ([3], [3]), ([], []), ([], []), ([], []), ([5, 6, 7, 3], [5, 6, 7]), ([8], [8]), ([4, 9], [4, 9]), ([10, 8], [10]), ([11], [11]), ([11], [11]), ([13, 11], [11, 13]), ([12, 14, 11, 11], [11, 12, 14]), ([15, 11], [11, 15]), ([11], [11]), ([11], [11]), ([18, 11], [11, 18]), ([17, 19, 15, 11], [11, 17, 19]), ([20, 11], [11, 20]), ([16, 21, 11], [11, 16, 21]), ([11, 22], [11, 22]), ([23, 20], [23]), ([24, 24], [24]), ([24, 25], [24, 25]), ([26, 25, 0, 1, 2, 3, 4, 5, 6, 7, 8, 9, 10, 11, 12, 13, 14, 15, 16, 17, 18, 19, 20, 21, 22, 23, 24, 25, 26], [26])]) (fun i => ([(fun _ v_ => v_ = (.slice A x.length c)), (fun _ v_ => v_ = (.int .i64 a1)), (fun _ v_ => v_ = (.int .i64 a2)), (fun w_ v_ => Reg.Rs (Kd.int .u8) w_ v_ r1), (fun _ v_ => v_ = (.string (strOfNums r1))), (fun _ v_ => v_ = (.slice A x.length c)), (fun _ v_ => v_ = (.int .i64 a1)), (fun _ v_ => v_ = (.int .i64 a2)), (fun w_ v_ => Reg.Rs (Kd.int .u8) w_ v_ r1), (fun _ v_ => v_ = (.string (strOfNums r1))), (fun _ v_ => v_ = (.bool true)), (fun _ v_ => v_ = (.bool true)), (fun _ v_ => v_ = (.slice A x.length c)), (fun _ v_ => v_ = (.slice A x.length c)), (fun _ v_ => v_ = (.string (strOfNums x))), (fun w_ v_ => Reg.Rs (Kd.int .u8) w_ v_ r2), (fun _ v_ => v_ = (.string (strOfNums r2))), (fun _ v_ => v_ = (.slice A x.length c)), (fun _ v_ => v_ = (.slice A x.length c)), (fun _ v_ => v_ = (.string (strOfNums x))), (fun w_ v_ => Reg.Rs (Kd.int .u8) w_ v_ r2), (fun _ v_ => v_ = (.string (strOfNums r2))), (fun _ v_ => v_ = (.bool true)), (fun _ v_ => v_ = (.bool true)), (fun _ v_ => v_ = (.bool true)), (fun _ v_ => v_ = .bool true), (fun _ v_ => v_ = (.bool true)), (fun _ v_ => v_ = (.bool true))] : List (World → Value → Prop)).getD i (fun _ _ => False))
        (by kernel_rfl) (by kernel_rfl) (by kernel_rfl) (by kernel_rfl) (by kernel_rfl) (by decide) (by rfl) (Reg.mono_getD ?_) [0, 1, 2, 3, 4, 5, 6, 7, 8, 9, 10, 11, 12, 13, 14, 15, 16, 17, 18, 19, 20, 21, 22, 23, 24, 25, 26, 27] (by kernel_rfl) ?_ ?_
    · exact Reg.monoS_cons (Reg.monoS_eq _) (Reg.monoS_cons (Reg.monoS_eq _) (Reg.monoS_cons (Reg.monoS_eq _) (Reg.monoS_cons (Reg.monoS_rs _ _) (Reg.monoS_cons (Reg.monoS_eq _) (Reg.monoS_cons (Reg.monoS_eq _) (Reg.monoS_cons (Reg.monoS_eq _) (Reg.monoS_cons (Reg.monoS_eq _) (Reg.monoS_cons (Reg.monoS_rs _ _) (Reg.monoS_cons (Reg.monoS_eq _) (Reg.monoS_cons (Reg.monoS_eq _) (Reg.monoS_cons (Reg.monoS_eq _) (Reg.monoS_cons (Reg.monoS_eq _) (Reg.monoS_cons (Reg.monoS_eq _) (Reg.monoS_cons (Reg.monoS_eq _) (Reg.monoS_cons (Reg.monoS_rs _ _) (Reg.monoS_cons (Reg.monoS_eq _) (Reg.monoS_cons (Reg.monoS_eq _) (Reg.monoS_cons (Reg.monoS_eq _) (Reg.monoS_cons (Reg.monoS_eq _) (Reg.monoS_cons (Reg.monoS_rs _ _) (Reg.monoS_cons (Reg.monoS_eq _) (Reg.monoS_cons (Reg.monoS_eq _) (Reg.monoS_cons (Reg.monoS_eq _) (Reg.monoS_cons (Reg.monoS_eq _) (Reg.monoS_cons (Reg.monoS_eq _) (Reg.monoS_cons (Reg.monoS_eq _) (Reg.monoS_cons (Reg.monoS_eq _) Reg.monoS_nil)))))))))))))))))))))))))))
    · skip
      refine Reg.rs_cons ?_ ?_
      · intro a w hb hs hel hon
        have e0 : a.tmps[0]? = some (.slice A x.length c) := (hel 0 (by decide)).trans rfl
        obtain ⟨_, g0⟩ := Array.getElem?_eq_some_iff.1 e0
        refine ⟨_, rfl, fun K hK => ?_⟩
        refine value_ (w1 := w) (v := .slice A x.length c) (by rfl) rfl ?_ (hK.out _ _ (Below.refl _ _) (rfl))
        · go_simp
          (try simp only [i64_w, g0])
          (try go_simp)
          try rfl
      refine Reg.rs_cons ?_ ?_
      · intro a w hb hs hel hon
        have e1 : a.tmps[1]? = some (.int .i64 a1) := (hel 1 (by decide)).trans rfl
        obtain ⟨_, g1⟩ := Array.getElem?_eq_some_iff.1 e1
        refine ⟨_, rfl, fun K hK => ?_⟩
        refine value_ (w1 := w) (v := .int .i64 a1) (by rfl) rfl ?_ (hK.out _ _ (Below.refl _ _) (rfl))
        · go_simp
          (try simp only [i64_w, g1])
          (try go_simp)
          try rfl
      refine Reg.rs_cons ?_ ?_
      · intro a w hb hs hel hon
        have e2 : a.tmps[2]? = some (.int .i64 a2) := (hel 2 (by decide)).trans rfl
        obtain ⟨_, g2⟩ := Array.getElem?_eq_some_iff.1 e2
        refine ⟨_, rfl, fun K hK => ?_⟩
        refine value_ (w1 := w) (v := .int .i64 a2) (by rfl) rfl ?_ (hK.out _ _ (Below.refl _ _) (rfl))
        · go_simp
          (try simp only [i64_w, g2])
          (try go_simp)
          try rfl
      refine Reg.rs_cons ?_ ?_
      · intro a w hb hs hel hon
        obtain ⟨_, e11, rfl⟩ := hon 0 11 (by kernel_rfl) rfl
        obtain ⟨_, e12, rfl⟩ := hon 1 12 (by kernel_rfl) rfl
        obtain ⟨_, e13, rfl⟩ := hon 2 13 (by kernel_rfl) rfl
        refine ⟨_, rfl, fun K hK => ?_⟩
        refine goes_ Try.func10 (by kernel_rfl) rfl #[.slice A x.length c, .int .i64 a1, .int .i64 a2] (by rfl) rfl rfl (by first | (simp only [List.map_toArray, List.map_cons, List.map_nil, Act.eval, Array.getD_eq_getD_getElem?, Option.getD_some, e11, e12, e13]; done) | (simp only [List.map_toArray, List.map_cons, List.map_nil, Act.eval, Array.getD_eq_getD_getElem?, Option.getD_some, e11, e12, e13]; rfl) | rfl) ?_
        refine (octet_Put.calls A c x a1 a2 r1 w (Kd.C_below HC.out hb) hle HP1.out).mono ?_
        rintro e w2 ⟨v, rfl, ho, hb2⟩
        exact ⟨_, rfl, hK.out _ _ hb2 (Kd.R_reads ho)⟩
      refine Reg.rs_cons ?_ ?_
      · intro a w hb hs hel hon
        obtain ⟨x14, e14, ⟨A_3, c_3, rfl, hl_3, hC_3⟩⟩ := hon 3 14 (by kernel_rfl) rfl
        obtain ⟨_, g14⟩ := Array.getElem?_eq_some_iff.1 e14
        refine ⟨_, rfl, fun K hK => ?_⟩
        have hs := Kd.C_string (c := c_3) (P := Try.prog) Try.underlying22 Try.underlying5 Try.underlying9 hC_3
        refine value_ (w1 := w) (v := .string (strOfNums r1)) (by rfl) rfl ?_ (hK.out _ _ (Below.refl _ _) (rfl))
        · go_simp
          (try simp only [i64_w, g14])
          (try go_simp)
          try rfl
      refine Reg.rs_cons ?_ ?_
      · intro a w hb hs hel hon
        have e0 : a.tmps[0]? = some (.slice A x.length c) := (hel 0 (by decide)).trans rfl
        obtain ⟨_, g0⟩ := Array.getElem?_eq_some_iff.1 e0
        refine ⟨_, rfl, fun K hK => ?_⟩
        refine value_ (w1 := w) (v := .slice A x.length c) (by rfl) rfl ?_ (hK.out _ _ (Below.refl _ _) (rfl))
        · go_simp
          (try simp only [i64_w, g0])
          (try go_simp)
          try rfl
      refine Reg.rs_cons ?_ ?_
      · intro a w hb hs hel hon
        have e1 : a.tmps[1]? = some (.int .i64 a1) := (hel 1 (by decide)).trans rfl
        obtain ⟨_, g1⟩ := Array.getElem?_eq_some_iff.1 e1
        refine ⟨_, rfl, fun K hK => ?_⟩
        refine value_ (w1 := w) (v := .int .i64 a1) (by rfl) rfl ?_ (hK.out _ _ (Below.refl _ _) (rfl))
        · go_simp
          (try simp only [i64_w, g1])
          (try go_simp)
          try rfl
      refine Reg.rs_cons ?_ ?_
      · intro a w hb hs hel hon
        have e2 : a.tmps[2]? = some (.int .i64 a2) := (hel 2 (by decide)).trans rfl
        obtain ⟨_, g2⟩ := Array.getElem?_eq_some_iff.1 e2
        refine ⟨_, rfl, fun K hK => ?_⟩
        refine value_ (w1 := w) (v := .int .i64 a2) (by rfl) rfl ?_ (hK.out _ _ (Below.refl _ _) (rfl))
        · go_simp
          (try simp only [i64_w, g2])
          (try go_simp)
          try rfl
      refine Reg.rs_cons ?_ ?_
      · intro a w hb hs hel hon
        obtain ⟨_, e16, rfl⟩ := hon 5 16 (by kernel_rfl) rfl
        obtain ⟨_, e17, rfl⟩ := hon 6 17 (by kernel_rfl) rfl
        obtain ⟨_, e18, rfl⟩ := hon 7 18 (by kernel_rfl) rfl
        refine ⟨_, rfl, fun K hK => ?_⟩
        refine goes_ Try.func11 (by kernel_rfl) rfl #[.slice A x.length c, .int .i64 a1, .int .i64 a2] (by rfl) rfl rfl (by first | (simp only [List.map_toArray, List.map_cons, List.map_nil, Act.eval, Array.getD_eq_getD_getElem?, Option.getD_some, e16, e17, e18]; done) | (simp only [List.map_toArray, List.map_cons, List.map_nil, Act.eval, Array.getD_eq_getD_getElem?, Option.getD_some, e16, e17, e18]; rfl) | rfl) ?_
        refine (ladderbackref03_Put.calls k1 A c x a1 a2 r1 w (Kd.C_below HC.out hb) hle HP2.out).mono ?_
        rintro e w2 ⟨v, rfl, ho, hb2⟩
        exact ⟨_, rfl, hK.out _ _ hb2 (Kd.R_reads ho)⟩
      refine Reg.rs_cons ?_ ?_
      · intro a w hb hs hel hon
        obtain ⟨x19, e19, ⟨A_8, c_8, rfl, hl_8, hC_8⟩⟩ := hon 8 19 (by kernel_rfl) rfl
        obtain ⟨_, g19⟩ := Array.getElem?_eq_some_iff.1 e19
        refine ⟨_, rfl, fun K hK => ?_⟩
        have hs := Kd.C_string (c := c_8) (P := Try.prog) Try.underlying22 Try.underlying5 Try.underlying9 hC_8
        refine value_ (w1 := w) (v := .string (strOfNums r1)) (by rfl) rfl ?_ (hK.out _ _ (Below.refl _ _) (rfl))
        · go_simp
          (try simp only [i64_w, g19])
          (try go_simp)
          try rfl
      refine Reg.rs_cons ?_ ?_
      · intro a w hb hs hel hon
        obtain ⟨_, e15, rfl⟩ := hon 4 15 (by kernel_rfl) rfl
        obtain ⟨_, e20, rfl⟩ := hon 9 20 (by kernel_rfl) rfl
        obtain ⟨_, g15⟩ := Array.getElem?_eq_some_iff.1 e15
        obtain ⟨_, g20⟩ := Array.getElem?_eq_some_iff.1 e20
        refine ⟨_, rfl, fun K hK => ?_⟩
        refine value_ (w1 := w) (v := .bool true) (by rfl) rfl ?_ (hK.out _ _ (Below.refl _ _) (rfl))
        · go_simp
          (try simp only [i64_w, g15, g20])
          (try go_simp)
          try rfl
      refine Reg.rs_cons ?_ ?_
      · intro a w hb hs hel hon
        obtain ⟨_, e21, rfl⟩ := hon 10 21 (by kernel_rfl) rfl
        obtain ⟨_, g21⟩ := Array.getElem?_eq_some_iff.1 e21
        refine ⟨_, rfl, fun K hK => ?_⟩
        refine value_ (w1 := w) (v := .bool true) (by rfl) rfl ?_ (hK.out _ _ (Below.refl _ _) (rfl))
        · go_simp
          (try simp only [i64_w, g21])
          (try go_simp)
          try rfl
      refine Reg.rs_cons ?_ ?_
      · intro a w hb hs hel hon
        have e0 : a.tmps[0]? = some (.slice A x.length c) := (hel 0 (by decide)).trans rfl
        obtain ⟨_, e22, rfl⟩ := hon 11 22 (by kernel_rfl) rfl
        obtain ⟨_, g0⟩ := Array.getElem?_eq_some_iff.1 e0
        obtain ⟨_, g22⟩ := Array.getElem?_eq_some_iff.1 e22
        refine ⟨_, rfl, fun K hK => ?_⟩
        refine value_ (w1 := w) (v := .slice A x.length c) (wanted_on rfl rfl rfl e22) rfl ?_ (hK.out _ _ (Below.refl _ _) (rfl))
        · go_simp
          (try simp only [i64_w, g0, g22])
          (try go_simp)
          try rfl
      refine Reg.rs_cons ?_ ?_
      · intro a w hb hs hel hon
        have e0 : a.tmps[0]? = some (.slice A x.length c) := (hel 0 (by decide)).trans rfl
        obtain ⟨_, e22, rfl⟩ := hon 11 22 (by kernel_rfl) rfl
        obtain ⟨_, g0⟩ := Array.getElem?_eq_some_iff.1 e0
        obtain ⟨_, g22⟩ := Array.getElem?_eq_some_iff.1 e22
        refine ⟨_, rfl, fun K hK => ?_⟩
        refine value_ (w1 := w) (v := .slice A x.length c) (wanted_on rfl rfl rfl e22) rfl ?_ (hK.out _ _ (Below.refl _ _) (rfl))
        · go_simp
          (try simp only [i64_w, g0, g22])
          (try go_simp)
          try rfl
      refine Reg.rs_cons ?_ ?_
      · intro a w hb hs hel hon
        obtain ⟨_, e24, rfl⟩ := hon 13 24 (by kernel_rfl) rfl
        obtain ⟨_, e22, rfl⟩ := hon 11 22 (by kernel_rfl) rfl
        obtain ⟨_, g24⟩ := Array.getElem?_eq_some_iff.1 e24
        obtain ⟨_, g22⟩ := Array.getElem?_eq_some_iff.1 e22
        refine ⟨_, rfl, fun K hK => ?_⟩
        have hs := Kd.C_string (c := c) (P := Try.prog) Try.underlying22 Try.underlying5 Try.underlying9 (Kd.C_below HC.out hb)
        refine value_ (w1 := w) (v := .string (strOfNums x)) (wanted_on rfl rfl rfl e22) rfl ?_ (hK.out _ _ (Below.refl _ _) (rfl))
        · go_simp
          (try simp only [i64_w, g24, g22])
          (try go_simp)
          try rfl
      refine Reg.rs_cons ?_ ?_
      · intro a w hb hs hel hon
        obtain ⟨_, e23, rfl⟩ := hon 12 23 (by kernel_rfl) rfl
        obtain ⟨_, e25, rfl⟩ := hon 14 25 (by kernel_rfl) rfl
        obtain ⟨_, e22, rfl⟩ := hon 11 22 (by kernel_rfl) rfl
        refine ⟨_, rfl, fun K hK => ?_⟩
        refine goes_ Try.func12 (by kernel_rfl) rfl #[.slice A x.length c, .string (strOfNums x)] (wanted_on rfl rfl rfl e22) rfl rfl (by first | (simp only [List.map_toArray, List.map_cons, List.map_nil, Act.eval, Array.getD_eq_getD_getElem?, Option.getD_some, e23, e25, e22]; done) | (simp only [List.map_toArray, List.map_cons, List.map_nil, Act.eval, Array.getD_eq_getD_getElem?, Option.getD_some, e23, e25, e22]; rfl) | rfl) ?_
        refine (octet_Text.calls A c x (strOfNums x) r2 w (Kd.C_below HC.out hb) hle HT1.out).mono ?_
        rintro e w2 ⟨v, rfl, ho, hb2⟩
        exact ⟨_, rfl, hK.out _ _ hb2 (Kd.R_reads ho)⟩
      refine Reg.rs_cons ?_ ?_
      · intro a w hb hs hel hon
        obtain ⟨x26, e26, ⟨A_15, c_15, rfl, hl_15, hC_15⟩⟩ := hon 15 26 (by kernel_rfl) rfl
        obtain ⟨_, e22, rfl⟩ := hon 11 22 (by kernel_rfl) rfl
        obtain ⟨_, g26⟩ := Array.getElem?_eq_some_iff.1 e26
        obtain ⟨_, g22⟩ := Array.getElem?_eq_some_iff.1 e22
        refine ⟨_, rfl, fun K hK => ?_⟩
        have hs := Kd.C_string (c := c_15) (P := Try.prog) Try.underlying22 Try.underlying5 Try.underlying9 hC_15
        refine value_ (w1 := w) (v := .string (strOfNums r2)) (wanted_on rfl rfl rfl e22) rfl ?_ (hK.out _ _ (Below.refl _ _) (rfl))
        · go_simp
          (try simp only [i64_w, g26, g22])
          (try go_simp)
          try rfl
      refine Reg.rs_cons ?_ ?_
      · intro a w hb hs hel hon
        have e0 : a.tmps[0]? = some (.slice A x.length c) := (hel 0 (by decide)).trans rfl
        obtain ⟨_, e22, rfl⟩ := hon 11 22 (by kernel_rfl) rfl
        obtain ⟨_, g0⟩ := Array.getElem?_eq_some_iff.1 e0
        obtain ⟨_, g22⟩ := Array.getElem?_eq_some_iff.1 e22
        refine ⟨_, rfl, fun K hK => ?_⟩
        refine value_ (w1 := w) (v := .slice A x.length c) (wanted_on rfl rfl rfl e22) rfl ?_ (hK.out _ _ (Below.refl _ _) (rfl))
        · go_simp
          (try simp only [i64_w, g0, g22])
          (try go_simp)
          try rfl
      refine Reg.rs_cons ?_ ?_
      · intro a w hb hs hel hon
        have e0 : a.tmps[0]? = some (.slice A x.length c) := (hel 0 (by decide)).trans rfl
        obtain ⟨_, e22, rfl⟩ := hon 11 22 (by kernel_rfl) rfl
        obtain ⟨_, g0⟩ := Array.getElem?_eq_some_iff.1 e0
        obtain ⟨_, g22⟩ := Array.getElem?_eq_some_iff.1 e22
        refine ⟨_, rfl, fun K hK => ?_⟩
        refine value_ (w1 := w) (v := .slice A x.length c) (wanted_on rfl rfl rfl e22) rfl ?_ (hK.out _ _ (Below.refl _ _) (rfl))
        · go_simp
          (try simp only [i64_w, g0, g22])
          (try go_simp)
          try rfl
      refine Reg.rs_cons ?_ ?_
      · intro a w hb hs hel hon
        obtain ⟨_, e29, rfl⟩ := hon 18 29 (by kernel_rfl) rfl
        obtain ⟨_, e22, rfl⟩ := hon 11 22 (by kernel_rfl) rfl
        obtain ⟨_, g29⟩ := Array.getElem?_eq_some_iff.1 e29
        obtain ⟨_, g22⟩ := Array.getElem?_eq_some_iff.1 e22
        refine ⟨_, rfl, fun K hK => ?_⟩
        have hs := Kd.C_string (c := c) (P := Try.prog) Try.underlying22 Try.underlying5 Try.underlying9 (Kd.C_below HC.out hb)
        refine value_ (w1 := w) (v := .string (strOfNums x)) (wanted_on rfl rfl rfl e22) rfl ?_ (hK.out _ _ (Below.refl _ _) (rfl))
        · go_simp
          (try simp only [i64_w, g29, g22])
          (try go_simp)
          try rfl
      refine Reg.rs_cons ?_ ?_
      · intro a w hb hs hel hon
        obtain ⟨_, e28, rfl⟩ := hon 17 28 (by kernel_rfl) rfl
        obtain ⟨_, e30, rfl⟩ := hon 19 30 (by kernel_rfl) rfl
        obtain ⟨_, e22, rfl⟩ := hon 11 22 (by kernel_rfl) rfl
        refine ⟨_, rfl, fun K hK => ?_⟩
        refine goes_ Try.func13 (by kernel_rfl) rfl #[.slice A x.length c, .string (strOfNums x)] (wanted_on rfl rfl rfl e22) rfl rfl (by first | (simp only [List.map_toArray, List.map_cons, List.map_nil, Act.eval, Array.getD_eq_getD_getElem?, Option.getD_some, e28, e30, e22]; done) | (simp only [List.map_toArray, List.map_cons, List.map_nil, Act.eval, Array.getD_eq_getD_getElem?, Option.getD_some, e28, e30, e22]; rfl) | rfl) ?_
        refine (ladderbackref03_Text.calls k2 A c x (strOfNums x) r2 w (Kd.C_below HC.out hb) hle HT2.out).mono ?_
        rintro e w2 ⟨v, rfl, ho, hb2⟩
        exact ⟨_, rfl, hK.out _ _ hb2 (Kd.R_reads ho)⟩
      refine Reg.rs_cons ?_ ?_
      · intro a w hb hs hel hon
        obtain ⟨x31, e31, ⟨A_20, c_20, rfl, hl_20, hC_20⟩⟩ := hon 20 31 (by kernel_rfl) rfl
        obtain ⟨_, e22, rfl⟩ := hon 11 22 (by kernel_rfl) rfl
        obtain ⟨_, g31⟩ := Array.getElem?_eq_some_iff.1 e31
        obtain ⟨_, g22⟩ := Array.getElem?_eq_some_iff.1 e22
        refine ⟨_, rfl, fun K hK => ?_⟩
        have hs := Kd.C_string (c := c_20) (P := Try.prog) Try.underlying22 Try.underlying5 Try.underlying9 hC_20
        refine value_ (w1 := w) (v := .string (strOfNums r2)) (wanted_on rfl rfl rfl e22) rfl ?_ (hK.out _ _ (Below.refl _ _) (rfl))
        · go_simp
          (try simp only [i64_w, g31, g22])
          (try go_simp)
          try rfl
      refine Reg.rs_cons ?_ ?_
      · intro a w hb hs hel hon
        obtain ⟨_, e27, rfl⟩ := hon 16 27 (by kernel_rfl) rfl
        obtain ⟨_, e32, rfl⟩ := hon 21 32 (by kernel_rfl) rfl
        obtain ⟨_, e22, rfl⟩ := hon 11 22 (by kernel_rfl) rfl
        obtain ⟨_, g27⟩ := Array.getElem?_eq_some_iff.1 e27
        obtain ⟨_, g32⟩ := Array.getElem?_eq_some_iff.1 e32
        obtain ⟨_, g22⟩ := Array.getElem?_eq_some_iff.1 e22
        refine ⟨_, rfl, fun K hK => ?_⟩
        refine value_ (w1 := w) (v := .bool true) (wanted_on rfl rfl rfl e22) rfl ?_ (hK.out _ _ (Below.refl _ _) (rfl))
        · go_simp
          (try simp only [i64_w, g27, g32, g22])
          (try go_simp)
          try rfl
      refine Reg.rs_cons ?_ ?_
      · intro a w hb hs hel hon
        obtain ⟨_, e22, rfl⟩ := hon 11 22 (by kernel_rfl) rfl
        obtain ⟨_, e33, rfl⟩ := hon 22 33 (by kernel_rfl) rfl
        obtain ⟨_, g22⟩ := Array.getElem?_eq_some_iff.1 e22
        obtain ⟨_, g33⟩ := Array.getElem?_eq_some_iff.1 e33
        refine ⟨_, rfl, fun K hK => ?_⟩
        refine value_ (w1 := w) (v := .bool true) (by rfl) rfl ?_ (hK.out _ _ (Below.refl _ _) (rfl))
        · go_simp
          (try simp only [i64_w, g22, g33])
          (try go_simp)
          try rfl
      refine Reg.rs_cons ?_ ?_
      · intro a w hb hs hel hon
        obtain ⟨_, e34, rfl⟩ := hon 23 34 (by kernel_rfl) rfl
        obtain ⟨_, g34⟩ := Array.getElem?_eq_some_iff.1 e34
        refine ⟨_, rfl, fun K hK => ?_⟩
        refine value_ (w1 := w) (v := .bool true) (by rfl) rfl ?_ (hK.out _ _ (Below.refl _ _) (rfl))
        · go_simp
          (try simp only [i64_w, g34])
          (try go_simp)
          try rfl
      refine Reg.rs_cons ?_ ?_
      · intro a w hb hs hel hon
        obtain ⟨_, e35, rfl⟩ := hon 24 35 (by kernel_rfl) rfl
        refine ⟨_, rfl, fun K hK => ?_⟩
        refine goes_ Try.func9 (by kernel_rfl) rfl #[] (wanted_on rfl rfl rfl e35) rfl rfl (by first | (simp only [List.map_toArray, List.map_cons, List.map_nil, Act.eval, Array.getD_eq_getD_getElem?, Option.getD_some, e35]; done) | (simp only [List.map_toArray, List.map_cons, List.map_nil, Act.eval, Array.getD_eq_getD_getElem?, Option.getD_some, e35]; rfl) | rfl) ?_
        refine (awake03 w).mono ?_
        rintro e w2 ⟨rfl, hb2⟩
        exact ⟨_, rfl, hK.out _ _ hb2 rfl⟩
      refine Reg.rs_cons ?_ ?_
      · intro a w hb hs hel hon
        obtain ⟨_, e35, rfl⟩ := hon 24 35 (by kernel_rfl) rfl
        obtain ⟨_, e36, rfl⟩ := hon 25 36 (by kernel_rfl) rfl
        obtain ⟨_, g35⟩ := Array.getElem?_eq_some_iff.1 e35
        obtain ⟨_, g36⟩ := Array.getElem?_eq_some_iff.1 e36
        refine ⟨_, rfl, fun K hK => ?_⟩
        refine value_ (w1 := w) (v := .bool true) (by rfl) rfl ?_ (hK.out _ _ (Below.refl _ _) (rfl))
        · go_simp
          (try simp only [i64_w, g35, g36])
          (try go_simp)
          try rfl
      refine Reg.rs_cons ?_ ?_
      · intro a w hb hs hel hon
        obtain ⟨_, e37, rfl⟩ := hon 26 37 (by kernel_rfl) rfl
        obtain ⟨_, g37⟩ := Array.getElem?_eq_some_iff.1 e37
        refine ⟨_, rfl, fun K hK => ?_⟩
        refine value_ (w1 := w) (v := .bool true) (by rfl) rfl ?_ (hK.out _ _ (Below.refl _ _) (rfl))
        · go_simp
          (try simp only [i64_w, g37])
          (try go_simp)
          try rfl
      exact Reg.rs_nil
    · intro a w hI
      rename_i K_ hK_
      refine hK_ a w ?_
      go_wp2
      obtain ⟨v6, e6, rfl⟩ := hI.vals 27 6 rfl rfl
      exact Reg.ret_slot (R := fun e w' => e = .returned (.bool true) ∧ Below _ _ w') (by kernel_rfl) hI.defers e6 ⟨rfl, hI.below⟩
end Go.Proofs.Ythbcliofjfhmbaa
