/- What a short program is, over the texts of the container. -/
import Derived.Test.YtdbfgfgbjheibaaDoorZBoxDecodesq
import Derived.Test.YtdbfgfgbjheibaaDoorZBoxDecodesaf
import Derived.Test.YtdbfgfgbjheibaaDoorZBoxDecodesai
import Derived.Test.YtdbfgfgbjheibaaDoorZBoxDecodesak
import Derived.Test.YtdbfgfgbjheibaaDoorZBoxDecodesal
section
/- tab.get at three types, as the program reads tables; bytes of at most 1000000000. -/
namespace Go.Proofs.YtdbfgfgbjheibaaDoor.Given
open Go Go.RowKit Go.Proofs.YtdbfgfgbjheibaaDoorW.PrintWords Go.Proofs.YtdbfgfgbjheibaaDoorW.PrintLast Go.Proofs.YtdbfgfgbjheibaaDoorW.PrintMore
set_option linter.unusedVariables false
set_option linter.unusedSimpArgs false
set_option maxHeartbeats 4000000 in
set_option maxRecDepth 100000 in
theorem con_get (A0 : Option Addr) (c0 : Nat) (b : List Int) (w : World) (hr0 : Kd.C (Kd.int .u8) w A0 b.length b) (hc0 : b.length ≤ c0) (hb : okB b = true) :
  Calls Tryd.prog 88 #[.slice A0 b.length c0, .int .i64 1024, .func (.func 89) #[] #[]] w fun e w' => ∃ v0_ : Value, e = .returned (.tuple #[v0_, .int .i64 (getR conR 1024 b).2]) ∧ Kd.R PBx.k68 68 w' w.heap.size (fun _ => True) v0_ (getR conR 1024 b).1 ∧ Below w.heap.size w w' := by
 have HO := zA hb
 have hl := (okB_all hb).2
 obtain ⟨t, hT⟩ : ∃ t, numR b 0 false 2 = t := ⟨_, rfl⟩
 have hrg := num2_range b hb
 rw [hT] at hrg
 obtain ⟨r, hR⟩ : ∃ r, getR conR 1024 b = r := ⟨_, rfl⟩
 rw [hR]
 unfold getR headR at hR
 rw [hT] at hR
 have HT := zA hT
 have HR := zA hR
 clear hb hT hR
 go_enter Tryd.func88, Tryd.ntmps88
 go_wp2_with fail
 refine (new_calls A0 c0 b w hr0 hc0 hl).mono ?_
 rintro e W2 ⟨W1, g, rfl, hI, hb1, hb2⟩
 have hg : w.heap.size ≤ g := Nat.le_trans hb1.size (by obtain ⟨_, _, hg, _⟩ := hI; exact hg)
 have H2 := zA (And.intro (RI.of hI hb2) (hb1.trans (hb2.mono hb1.size)))
 clear hI hb1 hb2 hr0
 go_wp2_with fail
 refine (num_i g W2 b 0 false 2 H2.out.1 HO.out).mono ?_
 rw [HT.out]
 rintro e W3 ⟨rfl, h3, hk3, hb3⟩
 have H3 := zA (And.intro h3 (H2.out.2.trans (hb3.mono hg)))
 clear h3 hk3 hb3 H2 HT
 obtain ⟨n, at0, bad0⟩ := t
 simp only at hrg
 go_wp2_with fail
 refine (bad_i g W3 b _ _ H3.out.1).mono ?_
 rintro e W4 ⟨rfl, m4, rfl⟩
 cases bad0 with
 | true =>
  have hh := HR.out
  simp only [if_true] at hh
  rw [if_neg (by decide)] at hh
  go_wp2_with fail
  go_ret2
  rw [← hh]
  exact ⟨_, rfl, Kd.R_nil _ _ _ _ _, zN H3.out.2 m4⟩
 | false =>
  have hh := HR.out
  simp only [Bool.false_eq_true, if_false] at hh
  by_cases hm : n > 1024
  ·rw [if_pos hm, if_neg (by decide)] at hh
   have HH := zA hh
   clear hh HR
   go_wp2_with fail
   go_ret2
   rw [← HH.out]
   exact ⟨_, rfl, Kd.R_nil _ _ _ _ _, zN H3.out.2 m4⟩
  ·rw [if_neg hm] at hh
   simp only [if_true] at hh
   obtain ⟨u, hU⟩ : ∃ u, rowsR (conR b) n.toNat at0 false [] = u := ⟨_, rfl⟩
   rw [hU] at hh
   have HH := zA hh
   have HU := zA hU
   have H4 := zA (And.intro (H3.out.1.below (zN (zX _ _) m4)) (zN H3.out.2 m4))
   clear hh hU HR H3
   generalize W3.drewN m4 = W4 at H4 ⊢
   obtain ⟨N, rfl⟩ : ∃ N : Nat, n = (N : Int) := ⟨n.toNat, by omega⟩
   rw [Int.toNat_natCast] at HU
   go_wp2_with fail
   go_loopw [10, 23] (fun ov iv wr => ∃ (j : Nat) (at_ : Int) (bad : Bool) (l : List SC), j ≤ N ∧ iv = .int .i64 (j : Int) ∧ Aside0 (l.length = j) ∧ Aside0 (Kd.R PBx.k68 68 wr w.heap.size (fun k => g < k) ov l) ∧ Aside0 (RI wr g b at_ bad ∧ Below w.heap.size w wr) ∧ Aside0 (rowsR (conR b) (N - j) at_ bad l = u)) (fun _ iv _ => N - (intOf iv).toNat)
   case atStart => exact ⟨0, _, _, [], Nat.zero_le _, rfl, ⟨rfl⟩, ⟨Kd.R_nil _ _ _ _ _⟩, H4, HU⟩
   case round =>
    clear HU H4
    obtain ⟨j, at_, bad, l, hj, rfl, HL, HV, HI, HU⟩ := hrel
    obtain ⟨A2, c2, rfl, hl2, hC2⟩ := Kd.R_reads HV.out
    clear hC2 hl2
    by_cases hjn : j < N
    rotate_left
    ·have hu := HU.out
     rw [show N - j = 0 by omega] at hu
     have HU2 := zA (show (l, at_, bad) = u from hu)
     clear hu HU
     go_wp2_with fail
     refine (bad_i g wr b _ _ HI.out.1).mono ?_
     rintro e W5 ⟨rfl, m5, rfl⟩
     cases bad with
     | true =>
      have hh := HH.out
      rw [← HU2.out] at hh
      unfold endR at hh
      simp only [if_true] at hh
      rw [if_neg (by decide)] at hh
      go_wp2_with fail
      go_ret2
      rw [← hh]
      exact ⟨_, rfl, Kd.R_nil _ _ _ _ _, zN HI.out.2 m5⟩
     | false =>
      have hh := HH.out
      rw [← HU2.out] at hh
      unfold endR at hh
      simp only [Bool.false_eq_true, if_false] at hh
      have H5 := zA (left_i g (wr.drewN m5) b at_ (HI.out.1.below (zN (zX _ _) m5)))
      by_cases hz : (b.length : Int) - at_ > 0
      ·rw [if_pos hz, if_neg (by decide)] at hh
       have HH2 := zA hh
       clear hh
       go_wp2_with fail
       refine H5.out.mono ?_
       rintro e W6 ⟨rfl, m6, rfl⟩
       go_wp2_with fail
       go_ret2
       rw [← HH2.out]
       exact ⟨_, rfl, Kd.R_nil _ _ _ _ _, zN HI.out.2 (m5 + m6)⟩
      ·rw [if_neg hz] at hh
       simp only [if_true] at hh
       have HH2 := zA hh
       clear hh
       go_wp2_with fail
       refine H5.out.mono ?_
       rintro e W6 ⟨rfl, m6, rfl⟩
       go_wp2_with fail
       go_ret2
       rw [← HH2.out]
       exact ⟨_, rfl, Kd.R_mono (zS HV.out (m5 + m6)) (fun _ _ => trivial), zN HI.out.2 (m5 + m6)⟩
    ·have hu := HU.out
     rw [show N - j = (N - (j + 1)) + 1 by omega] at hu
     unfold rowsR at hu
     have HU2 := zA hu
     clear hu HU
     go_wp2_with fail
     refine (con_row g wr b at_ bad HI.out.1 HO.out).mono ?_
     rintro e W5 ⟨rfl, h5, hk5, hb5⟩
     have HI5 := zA (And.intro h5 (HI.out.2.trans (hb5.mono hg)))
     have HV5 := zA (R_keep HV.out hk5)
     generalize (conR b at_ bad) = x at HI5 HU2 ⊢
     clear h5 hk5 hb5 HI HV
     go_wp2_with ((with_reducible refine gate_builtin (b := .append) (xs := #[.tmp 25, .tmp 29]) rfl ?_); at_builtin; refine Kd.R_append PBx.k68 (w0 := w) w.heap.size rfl (.tmp 25) (.tmp 29) 22 68 (.agg #[.int .i64 0, .int .i64 0]) 16 rfl Tryd.underlying22 (by kernel_rfl) rfl (by decide) (by omega) (.slice A2 l.length c2) l x.1 [.int .i64 x.1.f0, .int .i64 x.1.f1] (fun k => g < k) (fun _ => False) rfl (by first | (go_simp; done) | (go_simp; rfl)) ?aP (fun _ hk => hk.elim) ?aF ?aO ?aB ?aS ?aL ?_; (case aP => exact PBx.k68_mkM _ _ _ x.1); (case aB => exact HI5.out.2); (case aF => exact fun k hk => Nat.lt_of_lt_of_le HI5.out.1.ltS hk); (case aO => exact HV5.out); (case aS => exact HI5.out.2.size); (case aL => have := HL.out; omega); intro v7 W7 ho7 hb7 hg7 hat7; have HI7 := zA (And.intro (HI5.out.1.grown hg7 (fun k e => HV5.out.1 k e)) hb7); have HV7 := zA ho7; clear hg7 hat7 ho7 hb7)
     refine ⟨⟨j + 1, _, _, l ++ [x.1], by omega, by push_cast; rfl, ⟨by rw [List.length_append, HL.out]; rfl⟩, HV7, HI7, HU2⟩, ?_⟩
     rw [show intOf (.int .i64 ((j : Int) + 1)) = (j : Int) + 1 from rfl, show intOf (.int .i64 (j : Int)) = (j : Int) from rfl]
     omega
def tab_GetConsts.f (b : List Int) : Option (List SC × Int) := if okB b = true then some (getR conR 1024 b) else none
theorem tab_GetConsts.calls (A0 : Option Addr) (c0 : Nat) (l0 : List Int) (r1 : List SC) (r2 : Int) (w : World) (hr0 : Kd.C (Kd.int .u8) w A0 l0.length l0) (hc0 : l0.length ≤ c0) (h : tab_GetConsts.f l0 = some (r1, r2)) :
  Calls Tryd.prog 61 #[.slice A0 l0.length c0] w fun e w' => ∃ v0_ : Value, e = .returned (.tuple #[v0_, .int .i64 r2]) ∧ Kd.R PBx.k68 68 w' w.heap.size (fun _ => True) v0_ r1 ∧ Below w.heap.size w w' := by
 unfold tab_GetConsts.f at h
 split at h
 ·rename_i hb
  have h := zJ h
  have HG := zA (con_get A0 c0 l0 w hr0 hc0 hb)
  rw [h] at HG
  clear h
  go_enter Tryd.func61, Tryd.ntmps61
  go_wp2_with fail
  refine HG.out.mono ?_
  rintro e W1 ⟨v, rfl, ho, hb1⟩
  go_wp2_with fail
  go_ret2
  exact ⟨v, rfl, ho, hb1⟩
 ·cases h
set_option maxHeartbeats 4000000 in
set_option maxRecDepth 100000 in
theorem blk_get (A0 : Option Addr) (c0 : Nat) (b : List Int) (w : World) (hr0 : Kd.C (Kd.int .u8) w A0 b.length b) (hc0 : b.length ≤ c0) (hb : okB b = true) :
  Calls Tryd.prog 94 #[.slice A0 b.length c0, .int .i64 32, .func (.func 95) #[] #[]] w fun e w' => ∃ v0_ : Value, e = .returned (.tuple #[v0_, .int .i64 (getR blkR 32 b).2]) ∧ Kd.R PBx.k43 43 w' w.heap.size (fun _ => True) v0_ (getR blkR 32 b).1 ∧ Below w.heap.size w w' := by
 have HO := zA hb
 have hl := (okB_all hb).2
 obtain ⟨t, hT⟩ : ∃ t, numR b 0 false 2 = t := ⟨_, rfl⟩
 have hrg := num2_range b hb
 rw [hT] at hrg
 obtain ⟨r, hR⟩ : ∃ r, getR blkR 32 b = r := ⟨_, rfl⟩
 rw [hR]
 unfold getR headR at hR
 rw [hT] at hR
 have HT := zA hT
 have HR := zA hR
 clear hb hT hR
 go_enter Tryd.func94, Tryd.ntmps94
 go_wp2_with fail
 refine (new_calls A0 c0 b w hr0 hc0 hl).mono ?_
 rintro e W2 ⟨W1, g, rfl, hI, hb1, hb2⟩
 have hg : w.heap.size ≤ g := Nat.le_trans hb1.size (by obtain ⟨_, _, hg, _⟩ := hI; exact hg)
 have H2 := zA (And.intro (RI.of hI hb2) (hb1.trans (hb2.mono hb1.size)))
 clear hI hb1 hb2 hr0
 go_wp2_with fail
 refine (num_i g W2 b 0 false 2 H2.out.1 HO.out).mono ?_
 rw [HT.out]
 rintro e W3 ⟨rfl, h3, hk3, hb3⟩
 have H3 := zA (And.intro h3 (H2.out.2.trans (hb3.mono hg)))
 clear h3 hk3 hb3 H2 HT
 obtain ⟨n, at0, bad0⟩ := t
 simp only at hrg
 go_wp2_with fail
 refine (bad_i g W3 b _ _ H3.out.1).mono ?_
 rintro e W4 ⟨rfl, m4, rfl⟩
 cases bad0 with
 | true =>
  have hh := HR.out
  simp only [if_true] at hh
  rw [if_neg (by decide)] at hh
  go_wp2_with fail
  go_ret2
  rw [← hh]
  exact ⟨_, rfl, Kd.R_nil _ _ _ _ _, zN H3.out.2 m4⟩
 | false =>
  have hh := HR.out
  simp only [Bool.false_eq_true, if_false] at hh
  by_cases hm : n > 32
  ·rw [if_pos hm, if_neg (by decide)] at hh
   have HH := zA hh
   clear hh HR
   go_wp2_with fail
   go_ret2
   rw [← HH.out]
   exact ⟨_, rfl, Kd.R_nil _ _ _ _ _, zN H3.out.2 m4⟩
  ·rw [if_neg hm] at hh
   simp only [if_true] at hh
   obtain ⟨u, hU⟩ : ∃ u, rowsR (blkR b) n.toNat at0 false [] = u := ⟨_, rfl⟩
   rw [hU] at hh
   have HH := zA hh
   have HU := zA hU
   have H4 := zA (And.intro (H3.out.1.below (zN (zX _ _) m4)) (zN H3.out.2 m4))
   clear hh hU HR H3
   generalize W3.drewN m4 = W4 at H4 ⊢
   obtain ⟨N, rfl⟩ : ∃ N : Nat, n = (N : Int) := ⟨n.toNat, by omega⟩
   rw [Int.toNat_natCast] at HU
   go_wp2_with fail
   go_loopw [10, 23] (fun ov iv wr => ∃ (j : Nat) (at_ : Int) (bad : Bool) (l : List SB), j ≤ N ∧ iv = .int .i64 (j : Int) ∧ Aside0 (l.length = j) ∧ Aside0 (Kd.R PBx.k43 43 wr w.heap.size (fun k => g < k) ov l) ∧ Aside0 (RI wr g b at_ bad ∧ Below w.heap.size w wr) ∧ Aside0 (rowsR (blkR b) (N - j) at_ bad l = u)) (fun _ iv _ => N - (intOf iv).toNat)
   case atStart => exact ⟨0, _, _, [], Nat.zero_le _, rfl, ⟨rfl⟩, ⟨Kd.R_nil _ _ _ _ _⟩, H4, HU⟩
   case round =>
    clear HU H4
    obtain ⟨j, at_, bad, l, hj, rfl, HL, HV, HI, HU⟩ := hrel
    obtain ⟨A2, c2, rfl, hl2, hC2⟩ := Kd.R_reads HV.out
    clear hC2 hl2
    by_cases hjn : j < N
    rotate_left
    ·have hu := HU.out
     rw [show N - j = 0 by omega] at hu
     have HU2 := zA (show (l, at_, bad) = u from hu)
     clear hu HU
     go_wp2_with fail
     refine (bad_i g wr b _ _ HI.out.1).mono ?_
     rintro e W5 ⟨rfl, m5, rfl⟩
     cases bad with
     | true =>
      have hh := HH.out
      rw [← HU2.out] at hh
      unfold endR at hh
      simp only [if_true] at hh
      rw [if_neg (by decide)] at hh
      go_wp2_with fail
      go_ret2
      rw [← hh]
      exact ⟨_, rfl, Kd.R_nil _ _ _ _ _, zN HI.out.2 m5⟩
     | false =>
      have hh := HH.out
      rw [← HU2.out] at hh
      unfold endR at hh
      simp only [Bool.false_eq_true, if_false] at hh
      have H5 := zA (left_i g (wr.drewN m5) b at_ (HI.out.1.below (zN (zX _ _) m5)))
      by_cases hz : (b.length : Int) - at_ > 0
      ·rw [if_pos hz, if_neg (by decide)] at hh
       have HH2 := zA hh
       clear hh
       go_wp2_with fail
       refine H5.out.mono ?_
       rintro e W6 ⟨rfl, m6, rfl⟩
       go_wp2_with fail
       go_ret2
       rw [← HH2.out]
       exact ⟨_, rfl, Kd.R_nil _ _ _ _ _, zN HI.out.2 (m5 + m6)⟩
      ·rw [if_neg hz] at hh
       simp only [if_true] at hh
       have HH2 := zA hh
       clear hh
       go_wp2_with fail
       refine H5.out.mono ?_
       rintro e W6 ⟨rfl, m6, rfl⟩
       go_wp2_with fail
       go_ret2
       rw [← HH2.out]
       exact ⟨_, rfl, Kd.R_mono (zS HV.out (m5 + m6)) (fun _ _ => trivial), zN HI.out.2 (m5 + m6)⟩
    ·have hu := HU.out
     rw [show N - j = (N - (j + 1)) + 1 by omega] at hu
     unfold rowsR at hu
     have HU2 := zA hu
     clear hu HU
     go_wp2_with fail
     refine (blk_row g wr b at_ bad HI.out.1 HO.out).mono ?_
     rintro e W5 ⟨rfl, h5, hk5, hb5⟩
     have HI5 := zA (And.intro h5 (HI.out.2.trans (hb5.mono hg)))
     have HV5 := zA (R_keep HV.out hk5)
     generalize (blkR b at_ bad) = x at HI5 HU2 ⊢
     clear h5 hk5 hb5 HI HV
     go_wp2_with ((with_reducible refine gate_builtin (b := .append) (xs := #[.tmp 25, .tmp 29]) rfl ?_); at_builtin; refine Kd.R_append PBx.k43 (w0 := w) w.heap.size rfl (.tmp 25) (.tmp 29) 24 43 (.agg #[.string ⟨#[]⟩, .int .i64 0]) 24 rfl Tryd.underlying24 (by kernel_rfl) rfl (by decide) (by omega) (.slice A2 l.length c2) l x.1 [.string x.1.f0, .int .i64 x.1.f1] (fun k => g < k) (fun _ => False) rfl (by first | (go_simp; done) | (go_simp; rfl)) ?aP (fun _ hk => hk.elim) ?aF ?aO ?aB ?aS ?aL ?_; (case aP => exact PBx.k43_mkM _ _ _ x.1); (case aB => exact HI5.out.2); (case aF => exact fun k hk => Nat.lt_of_lt_of_le HI5.out.1.ltS hk); (case aO => exact HV5.out); (case aS => exact HI5.out.2.size); (case aL => have := HL.out; omega); intro v7 W7 ho7 hb7 hg7 hat7; have HI7 := zA (And.intro (HI5.out.1.grown hg7 (fun k e => HV5.out.1 k e)) hb7); have HV7 := zA ho7; clear hg7 hat7 ho7 hb7)
     refine ⟨⟨j + 1, _, _, l ++ [x.1], by omega, by push_cast; rfl, ⟨by rw [List.length_append, HL.out]; rfl⟩, HV7, HI7, HU2⟩, ?_⟩
     rw [show intOf (.int .i64 ((j : Int) + 1)) = (j : Int) + 1 from rfl, show intOf (.int .i64 (j : Int)) = (j : Int) from rfl]
     omega
def tab_GetBlocks.f (b : List Int) : Option (List SB × Int) := if okB b = true then some (getR blkR 32 b) else none
theorem tab_GetBlocks.calls (A0 : Option Addr) (c0 : Nat) (l0 : List Int) (r1 : List SB) (r2 : Int) (w : World) (hr0 : Kd.C (Kd.int .u8) w A0 l0.length l0) (hc0 : l0.length ≤ c0) (h : tab_GetBlocks.f l0 = some (r1, r2)) :
  Calls Tryd.prog 64 #[.slice A0 l0.length c0] w fun e w' => ∃ v0_ : Value, e = .returned (.tuple #[v0_, .int .i64 r2]) ∧ Kd.R PBx.k43 43 w' w.heap.size (fun _ => True) v0_ r1 ∧ Below w.heap.size w w' := by
 unfold tab_GetBlocks.f at h
 split at h
 ·rename_i hb
  have h := zJ h
  have HG := zA (blk_get A0 c0 l0 w hr0 hc0 hb)
  rw [h] at HG
  clear h
  go_enter Tryd.func64, Tryd.ntmps64
  go_wp2_with fail
  refine HG.out.mono ?_
  rintro e W1 ⟨v, rfl, ho, hb1⟩
  go_wp2_with fail
  go_ret2
  exact ⟨v, rfl, ho, hb1⟩
 ·cases h
set_option maxHeartbeats 4000000 in
set_option maxRecDepth 100000 in
theorem var_get (A0 : Option Addr) (c0 : Nat) (b : List Int) (w : World) (hr0 : Kd.C (Kd.int .u8) w A0 b.length b) (hc0 : b.length ≤ c0) (hb : okB b = true) :
  Calls Tryd.prog 91 #[.slice A0 b.length c0, .int .i64 64, .func (.func 92) #[] #[]] w fun e w' => ∃ v0_ : Value, e = .returned (.tuple #[v0_, .int .i64 (getR varR 64 b).2]) ∧ Kd.R PBx.k41 41 w' w.heap.size (fun _ => True) v0_ (getR varR 64 b).1 ∧ Below w.heap.size w w' := by
 have HO := zA hb
 have hl := (okB_all hb).2
 obtain ⟨t, hT⟩ : ∃ t, numR b 0 false 2 = t := ⟨_, rfl⟩
 have hrg := num2_range b hb
 rw [hT] at hrg
 obtain ⟨r, hR⟩ : ∃ r, getR varR 64 b = r := ⟨_, rfl⟩
 rw [hR]
 unfold getR headR at hR
 rw [hT] at hR
 have HT := zA hT
 have HR := zA hR
 clear hb hT hR
 go_enter Tryd.func91, Tryd.ntmps91
 go_wp2_with fail
 refine (new_calls A0 c0 b w hr0 hc0 hl).mono ?_
 rintro e W2 ⟨W1, g, rfl, hI, hb1, hb2⟩
 have hg : w.heap.size ≤ g := Nat.le_trans hb1.size (by obtain ⟨_, _, hg, _⟩ := hI; exact hg)
 have H2 := zA (And.intro (RI.of hI hb2) (hb1.trans (hb2.mono hb1.size)))
 clear hI hb1 hb2 hr0
 go_wp2_with fail
 refine (num_i g W2 b 0 false 2 H2.out.1 HO.out).mono ?_
 rw [HT.out]
 rintro e W3 ⟨rfl, h3, hk3, hb3⟩
 have H3 := zA (And.intro h3 (H2.out.2.trans (hb3.mono hg)))
 clear h3 hk3 hb3 H2 HT
 obtain ⟨n, at0, bad0⟩ := t
 simp only at hrg
 go_wp2_with fail
 refine (bad_i g W3 b _ _ H3.out.1).mono ?_
 rintro e W4 ⟨rfl, m4, rfl⟩
 cases bad0 with
 | true =>
  have hh := HR.out
  simp only [if_true] at hh
  rw [if_neg (by decide)] at hh
  go_wp2_with fail
  go_ret2
  rw [← hh]
  exact ⟨_, rfl, Kd.R_nil _ _ _ _ _, zN H3.out.2 m4⟩
 | false =>
  have hh := HR.out
  simp only [Bool.false_eq_true, if_false] at hh
  by_cases hm : n > 64
  ·rw [if_pos hm, if_neg (by decide)] at hh
   have HH := zA hh
   clear hh HR
   go_wp2_with fail
   go_ret2
   rw [← HH.out]
   exact ⟨_, rfl, Kd.R_nil _ _ _ _ _, zN H3.out.2 m4⟩
  ·rw [if_neg hm] at hh
   simp only [if_true] at hh
   obtain ⟨u, hU⟩ : ∃ u, rowsR (varR b) n.toNat at0 false [] = u := ⟨_, rfl⟩
   rw [hU] at hh
   have HH := zA hh
   have HU := zA hU
   have H4 := zA (And.intro (H3.out.1.below (zN (zX _ _) m4)) (zN H3.out.2 m4))
   clear hh hU HR H3
   generalize W3.drewN m4 = W4 at H4 ⊢
   obtain ⟨N, rfl⟩ : ∃ N : Nat, n = (N : Int) := ⟨n.toNat, by omega⟩
   rw [Int.toNat_natCast] at HU
   go_wp2_with fail
   go_loopw [10, 23] (fun ov iv wr => ∃ (j : Nat) (at_ : Int) (bad : Bool) (l : List SV), j ≤ N ∧ iv = .int .i64 (j : Int) ∧ Aside0 (l.length = j) ∧ Aside0 (Kd.R PBx.k41 41 wr w.heap.size (fun k => g < k) ov l) ∧ Aside0 (RI wr g b at_ bad ∧ Below w.heap.size w wr) ∧ Aside0 (rowsR (varR b) (N - j) at_ bad l = u)) (fun _ iv _ => N - (intOf iv).toNat)
   case atStart => exact ⟨0, _, _, [], Nat.zero_le _, rfl, ⟨rfl⟩, ⟨Kd.R_nil _ _ _ _ _⟩, H4, HU⟩
   case round =>
    clear HU H4
    obtain ⟨j, at_, bad, l, hj, rfl, HL, HV, HI, HU⟩ := hrel
    obtain ⟨A2, c2, rfl, hl2, hC2⟩ := Kd.R_reads HV.out
    clear hC2 hl2
    by_cases hjn : j < N
    rotate_left
    ·have hu := HU.out
     rw [show N - j = 0 by omega] at hu
     have HU2 := zA (show (l, at_, bad) = u from hu)
     clear hu HU
     go_wp2_with fail
     refine (bad_i g wr b _ _ HI.out.1).mono ?_
     rintro e W5 ⟨rfl, m5, rfl⟩
     cases bad with
     | true =>
      have hh := HH.out
      rw [← HU2.out] at hh
      unfold endR at hh
      simp only [if_true] at hh
      rw [if_neg (by decide)] at hh
      go_wp2_with fail
      go_ret2
      rw [← hh]
      exact ⟨_, rfl, Kd.R_nil _ _ _ _ _, zN HI.out.2 m5⟩
     | false =>
      have hh := HH.out
      rw [← HU2.out] at hh
      unfold endR at hh
      simp only [Bool.false_eq_true, if_false] at hh
      have H5 := zA (left_i g (wr.drewN m5) b at_ (HI.out.1.below (zN (zX _ _) m5)))
      by_cases hz : (b.length : Int) - at_ > 0
      ·rw [if_pos hz, if_neg (by decide)] at hh
       have HH2 := zA hh
       clear hh
       go_wp2_with fail
       refine H5.out.mono ?_
       rintro e W6 ⟨rfl, m6, rfl⟩
       go_wp2_with fail
       go_ret2
       rw [← HH2.out]
       exact ⟨_, rfl, Kd.R_nil _ _ _ _ _, zN HI.out.2 (m5 + m6)⟩
      ·rw [if_neg hz] at hh
       simp only [if_true] at hh
       have HH2 := zA hh
       clear hh
       go_wp2_with fail
       refine H5.out.mono ?_
       rintro e W6 ⟨rfl, m6, rfl⟩
       go_wp2_with fail
       go_ret2
       rw [← HH2.out]
       exact ⟨_, rfl, Kd.R_mono (zS HV.out (m5 + m6)) (fun _ _ => trivial), zN HI.out.2 (m5 + m6)⟩
    ·have hu := HU.out
     rw [show N - j = (N - (j + 1)) + 1 by omega] at hu
     unfold rowsR at hu
     have HU2 := zA hu
     clear hu HU
     go_wp2_with fail
     refine (var_row g wr b at_ bad HI.out.1 HO.out).mono ?_
     rintro e W5 ⟨rfl, h5, hk5, hb5⟩
     have HI5 := zA (And.intro h5 (HI.out.2.trans (hb5.mono hg)))
     have HV5 := zA (R_keep HV.out hk5)
     generalize (varR b at_ bad) = x at HI5 HU2 ⊢
     clear h5 hk5 hb5 HI HV
     go_wp2_with ((with_reducible refine gate_builtin (b := .append) (xs := #[.tmp 25, .tmp 29]) rfl ?_); at_builtin; refine Kd.R_append PBx.k41 (w0 := w) w.heap.size rfl (.tmp 25) (.tmp 29) 23 41 (.agg #[.string ⟨#[]⟩, .int .i64 0, .int .i64 0, .int .i64 0, .int .i64 0]) 48 rfl Tryd.underlying23 (by kernel_rfl) rfl (by decide) (by omega) (.slice A2 l.length c2) l x.1 [.string x.1.f0, .int .i64 x.1.f1, .int .i64 x.1.f2, .int .i64 x.1.f3, .int .i64 x.1.f4] (fun k => g < k) (fun _ => False) rfl (by first | (go_simp; done) | (go_simp; rfl)) ?aP (fun _ hk => hk.elim) ?aF ?aO ?aB ?aS ?aL ?_; (case aP => exact PBx.k41_mkM _ _ _ x.1); (case aB => exact HI5.out.2); (case aF => exact fun k hk => Nat.lt_of_lt_of_le HI5.out.1.ltS hk); (case aO => exact HV5.out); (case aS => exact HI5.out.2.size); (case aL => have := HL.out; omega); intro v7 W7 ho7 hb7 hg7 hat7; have HI7 := zA (And.intro (HI5.out.1.grown hg7 (fun k e => HV5.out.1 k e)) hb7); have HV7 := zA ho7; clear hg7 hat7 ho7 hb7)
     refine ⟨⟨j + 1, _, _, l ++ [x.1], by omega, by push_cast; rfl, ⟨by rw [List.length_append, HL.out]; rfl⟩, HV7, HI7, HU2⟩, ?_⟩
     rw [show intOf (.int .i64 ((j : Int) + 1)) = (j : Int) + 1 from rfl, show intOf (.int .i64 (j : Int)) = (j : Int) from rfl]
     omega
def tab_GetVars.f (b : List Int) : Option (List SV × Int) := if okB b = true then some (getR varR 64 b) else none
theorem tab_GetVars.calls (A0 : Option Addr) (c0 : Nat) (l0 : List Int) (r1 : List SV) (r2 : Int) (w : World) (hr0 : Kd.C (Kd.int .u8) w A0 l0.length l0) (hc0 : l0.length ≤ c0) (h : tab_GetVars.f l0 = some (r1, r2)) :
  Calls Tryd.prog 63 #[.slice A0 l0.length c0] w fun e w' => ∃ v0_ : Value, e = .returned (.tuple #[v0_, .int .i64 r2]) ∧ Kd.R PBx.k41 41 w' w.heap.size (fun _ => True) v0_ r1 ∧ Below w.heap.size w w' := by
 unfold tab_GetVars.f at h
 split at h
 ·rename_i hb
  have h := zJ h
  have HG := zA (var_get A0 c0 l0 w hr0 hc0 hb)
  rw [h] at HG
  clear h
  go_enter Tryd.func63, Tryd.ntmps63
  go_wp2_with fail
  refine HG.out.mono ?_
  rintro e W1 ⟨v, rfl, ho, hb1⟩
  go_wp2_with fail
  go_ret2
  exact ⟨v, rfl, ho, hb1⟩
 ·cases h
end Go.Proofs.YtdbfgfgbjheibaaDoor.Given
end

section
/- box.read walked whole: what it answers of bytes, or what it throws; bytes of at most 1000000, the operations' table as the program lays it. -/
namespace Go.Proofs.YtdbfgfgbjheibaaDoor.Given
open Go Go.RowKit Go.Proofs.YtdbfgfgbjheibaaDoor Go.Proofs.YtdbfgfgbjheibaaDoorW.PrintWords Go.Proofs.YtdbfgfgbjheibaaDoorW.PrintLast Go.Proofs.YtdbfgfgbjheibaaDoorW.PrintMore
set_option linter.unusedVariables false
set_option linter.unusedSimpArgs false
/-- A program whose lists are of the call's own. -/
structure Own (u : BPure.BR) (W : World) (base : Nat) : Prop where
 c : Kd.R PBx.k68 68 W base (fun _ => True) (.slice u.A0 u.C.length u.c0) u.C
 v : Kd.R PBx.k41 41 W base (fun _ => True) (.slice u.A1 u.V.length u.c1) u.V
 b : Kd.R PBx.k43 43 W base (fun _ => True) (.slice u.A2 u.B.length u.c2) u.B
 d : Kd.R PBx.k48 48 W base (fun _ => True) (.slice u.A3 u.U.length u.c3) u.U
theorem Own.ok {u : BPure.BR} {W : World} {base : Nat} (h : Own u W base) : u.Ok W := by
 have r0 := Kd.R_reads' h.c
 have r1 := Kd.R_reads' h.v
 have r2 := Kd.R_reads' h.b
 have r3 := Kd.R_reads' h.d
 exact ⟨r0.2.2, r0.2.1, r1.2.2, r1.2.1, r2.2.2, r2.2.1, r3.2.2, r3.2.1⟩
theorem own_stepR {α : Type} {d : Kd α} {e base : Nat} {W W1 : World} {v : Value} {xs : List α} (h : d.R e W base (fun _ => True) v xs) (hm : ∀ k, base ≤ k → W1.heap[k]? = W.heap[k]?) : d.R e W1 base (fun _ => True) v xs := Kd.R_mono (Kd.R_step (Kd.R_bound h) (fun k hk _ => hm k hk.2.1)) (fun _ _ => trivial)
theorem Own.step {u : BPure.BR} {W W1 : World} {base : Nat} (h : Own u W base) (hm : ∀ k, base ≤ k → W1.heap[k]? = W.heap[k]?) : Own u W1 base := ⟨own_stepR h.c hm, own_stepR h.v hm, own_stepR h.b hm, own_stepR h.d hm⟩
theorem Own.lower {u : BPure.BR} {W : World} {base b2 : Nat} (h : Own u W base) (hb : b2 ≤ base) : Own u W b2 := ⟨Kd.R_lower h.c hb, Kd.R_lower h.v hb, Kd.R_lower h.b hb, Kd.R_lower h.d hb⟩
theorem Own.below {u : BPure.BR} {W W1 : World} {base : Nat} (h : Own u W base) (hb : Below W.heap.size W W1) : Own u W1 base := ⟨Kd.R_below h.c hb, Kd.R_below h.v hb, Kd.R_below h.b hb, Kd.R_below h.d hb⟩
/-- What the call tells. -/
def RPost (r : Int × PD) (w : World) (e : Ending) (w' : World) : Prop :=
 (r.1 = 0 ∧ (∃ u : BPure.BR, e = .returned (.agg u.cells) ∧ Own u w' w.heap.size ∧ (u.C, u.V, u.B, u.U) = r.2) ∧ Below w.heap.size w w') ∨ (¬ r.1 = 0 ∧ e = .panicked [{ v := wrongV r.1, recovered := false }] ∧ Below w.heap.size w w')
theorem RI.far {W : World} {g : Nat} {b : List Int} {at_ : Int} {bad : Bool} (h : RI W g b at_ bad) {p : Addr} (hp : g < p.block) (v : Value) : RI (W.setCell p v) g b at_ bad := h.le (fun k hk => Below.heap_setCell W p v k (by omega))
theorem R_old {α : Type} {d : Kd α} {e base : Nat} {W W2 W3 : World} {ok : Nat → Prop} {v : Value} {xs : List α} {g2 : Nat} (h : d.R e W base ok v xs) (hb : Below W.heap.size W W2) (hb3 : Below g2 W2 W3) (hg2 : W.heap.size ≤ g2) : d.R e W3 base ok v xs := Kd.R_step h (fun k _ hlt => (hb3.block k (by omega)).trans (hb.block k hlt))
theorem R_newer {α : Type} {d : Kd α} {e base b2 gp : Nat} {W : World} {v : Value} {xs : List α} (h : d.R e W b2 (fun _ => True) v xs) (h1 : base ≤ b2) (h2 : gp < b2) : d.R e W base (fun k => gp < k) v xs := Kd.R_lower (Kd.R_mono (Kd.R_bound h) (fun k hk => Nat.lt_of_lt_of_le h2 hk.2.1)) h1
set_option maxHeartbeats 8000000 in
set_option maxRecDepth 100000 in
theorem read_whole (A0 : Option Addr) (c0 : Nat) (l : List Int) (w : World) (h : Kd.C (Kd.int .u8) w A0 l.length l) (hc : l.length ≤ c0) (h8 : 8 ≤ l.length) (hm : l.length ≤ 1000000) (hb : ∀ x ∈ l, 0 ≤ x ∧ x < 256) (heq : magicB l = true)
  (hsum : (numR (l.drop (l.length - 4)) 0 false 4).1 = 4294967295 - overF 4294967295 (l.take (l.length - 4))) (hL : LaidOps w) :
  Calls Tryd.prog 25 #[.slice A0 l.length c0] w fun e w' => RPost (readC1 (bodyOf l) 0) w e w' := by
 have hB : Below w.heap.size w (w.alloc (.cells #[.slice none 0 0, .slice none 0 0, .slice none 0 0, .slice none 0 0] 27)) := (zX _ _).alloc (z5 _) _
 have hz0 := heap_alloc_new w (.cells #[.slice none 0 0, .slice none 0 0, .slice none 0 0, .slice none 0 0] 27)
 unfold magicB at heq
 have g1 : ¬ ((l.length : Int) > 1048576) := by omega
 have g2 : ¬ ((l.length : Int) < 8) := by omega
 have MB := zA (fun n (hn : ¬ n = 0) W => must_bad n hn W)
 have MO := zA (fun W => must_ok W)
 have HB := zA hB
 have HH := zA (zD h hB)
 have h4 := Kd.C_take (m := 4) (zD h hB) (by omega)
 have y4 : (l.take 4).length = 4 := by rw [zt]; omega
 obtain ⟨y, hy⟩ : ∃ y, y = l.take 4 := ⟨_, rfl⟩
 rw [← hy] at h4 heq y4
 have hcv := Kd.C_string (P := Tryd.prog) (A := A0) (c := c0) Tryd.underlying28 Tryd.underlying5 Tryd.underlying9 (y4 ▸ h4)
 first | rw [y4] at hcv | skip
 have hz : (Tryd.prog.info? 5).map (·.size) = some 1 := by kernel_rfl
 obtain ⟨i0, hi0, hsz0⟩ := Option.map_eq_some_iff.1 hz
 have hs1 := cut_from (P := Tryd.prog) 28 5 .i64 Tryd.underlying28 hi0 1 hsz0 A0 l.length c0 ((l.length : Int) - 4) (by omega) (by omega)
 have hs2 := cut_to (P := Tryd.prog) 28 5 .i64 Tryd.underlying28 hi0 A0 l.length c0 ((l.length : Int) - 4) (by omega) (by omega) hc
 have e1 : ((l.length : Int) - 4).toNat = l.length - 4 := by omega
 have hC1 := Kd.C_drop (m := l.length - 4) (zD h hB) (by omega) hc
 have hC2 := Kd.C_take (m := l.length - 4) (zD h hB) (by omega)
 have e2 : l.length - (l.length - 4) = (l.drop (l.length - 4)).length := by rw [zd]
 have e3 : l.length - 4 = (l.take (l.length - 4)).length := by rw [zt]; omega
 rw [e1] at hs1 hs2
 rw [show (Kd.int .u8).sz = 1 from rfl] at hC1
 have hd1 : (l.drop (l.length - 4)).length = 4 := by rw [zd]; omega
 have hb1 : okB (l.drop (l.length - 4)) = true := by unfold okB; simp only [Bool.and_eq_true, List.all_eq_true, decide_eq_true_eq]; exact ⟨fun x hx => hb x (List.mem_of_mem_drop hx), by omega⟩
 have hbT : ∀ x ∈ l.take (l.length - 4), 0 ≤ x ∧ x < 256 := fun x hx => hb x (List.mem_of_mem_take hx)
 have hlT : (l.take (l.length - 4)).length ≤ 1000000000 := by rw [zt]; omega
 have hk1 : (l.drop (l.length - 4)).length ≤ c0 - (l.length - 4) := by rw [zd]; omega
 have hk2 : (l.take (l.length - 4)).length ≤ c0 := by rw [← e3]; omega
 have hs3 := Go.Proofs.YtdbfgfgbjheibaaDoorW.PrintWords.cut_mid (P := Tryd.prog) 28 5 .i64 .i64 Tryd.underlying28 hi0 1 hsz0 A0 l.length c0 4 ((l.length : Int) - 4) (by omega) (by omega) (by omega) hc
 have hC3 := Kd.C_mid (lo := 4) (hi := l.length - 4) (zD h hB) (by omega) (by omega) hc
 have e5 : l.length - 4 - 4 = (bodyOf l).length := by unfold bodyOf; rw [zd, zt]; omega
 have hb3 : okB (bodyOf l) = true := Pure.okB_of _ (by omega) (fun x hx => hb x (List.mem_of_mem_take (List.mem_of_mem_drop hx)))
 have hk3 : (bodyOf l).length ≤ c0 - 4 := by omega
 have hlB : (bodyOf l).length ≤ 1000000 := by omega
 rw [e1] at hs3
 rw [show (Kd.int .u8).sz = 1 from rfl] at hC3
 change Kd.C _ _ _ (bodyOf l).length (bodyOf l) at hC3
 rw [show ((4 : Int)).toNat = 4 from rfl, e5] at hs3
 generalize (if c0 = 4 then A0 else Option.map (fun x => x.add (4 * 1)) A0) = A3 at hs3 hC3
 generalize hc3 : c0 - 4 = c3 at hs3 hk3
 generalize bodyOf l = c at hs3 hC3 hb3 hk3 hlB e5 ⊢
 rw [e2] at hs1
 generalize (if c0 = l.length - 4 then A0 else Option.map (fun x => x.add ((l.length - 4) * 1)) A0) = A1 at hs1 hC1
 generalize c0 - (l.length - 4) = c1 at hs1 hk1
 rw [e3] at hs2
 generalize hD : l.drop (l.length - 4) = D at *
 generalize hT : l.take (l.length - 4) = T at *
 have PN := zA (fun W (hW : Below (w.alloc (.cells #[.slice none 0 0, .slice none 0 0, .slice none 0 0, .slice none 0 0] 27)).heap.size (w.alloc (.cells #[.slice none 0 0, .slice none 0 0, .slice none 0 0, .slice none 0 0] 27)) W) => new_calls A1 c1 D W (zD hC1 hW) hk1 (by omega))
 have PT := zA (fun W (hW : Below (w.alloc (.cells #[.slice none 0 0, .slice none 0 0, .slice none 0 0, .slice none 0 0] 27)).heap.size (w.alloc (.cells #[.slice none 0 0, .slice none 0 0, .slice none 0 0, .slice none 0 0] 27)) W) => Of_calls A0 c0 T W (zD hC2 hW) hk2 hlT hbT)
 have PB := zA (fun W (hW : Below (w.alloc (.cells #[.slice none 0 0, .slice none 0 0, .slice none 0 0, .slice none 0 0] 27)).heap.size (w.alloc (.cells #[.slice none 0 0, .slice none 0 0, .slice none 0 0, .slice none 0 0] 27)) W) => new_calls A3 c3 c W (zD hC3 hW) hk3 (by omega))
 have HO := zA hb1
 have HOc := zA hb3
 have HLc := zA hlB
 have HL := zA hL
 have HZ0 := zA hz0
 have hip : (Tryd.prog.info? 27).map (·.size) = some 4 := by kernel_rfl
 have hsum : (numR D 0 false 4).1 = 4294967295 - overF 4294967295 T := hsum
 obtain ⟨R, hR⟩ : ∃ R, readC1 c 0 = R := ⟨_, rfl⟩
 rw [hR]
 have HR := zA hR
 clear h hB h4 y4 hC1 hC2 hC3 e1 e2 e3 e5 hc3 hz hi0 hsz0 hb1 hb3 hk1 hk2 hk3 hb hd1 hbT hlT hlB hL hz0 hR
 clear hD hT hy
 go_enter Tryd.func25, Tryd.ntmps25
 go_wp2_with fail
 go_region_with (first
  | (go_at_call 59; refine (PN.out _ (by first | exact (zX _ _) | exact (below_drew1 (zX _ _)))).mono ?_; rintro e w8 ⟨w7, g, rfl, hI8, hb7, hb8⟩; have hb78 := hb7.trans (hb8.mono hb7.size))
  | (go_at_call 60; refine (num_calls g w7 _ D 0 false 4 hI8 hb8 HO.out).mono ?_; rintro e w9 ⟨rfl, hI9, hb9, hk9⟩)
  | (go_at_call 23; refine (PT.out _ (by first | exact hb7.trans (hb9.mono hb7.size) | exact (below_drew1 (zX _ _)).trans (hb7.trans (hb9.mono hb7.size)))).mono ?_; rintro e w10 ⟨rfl, hb10⟩))
 simp only [Act.put, zY, List.set_cons_zero, z2]
 have hbA := (below_drew1 (zX (w.alloc (.cells #[.slice none 0 0, .slice none 0 0, .slice none 0 0, .slice none 0 0] 27)).heap.size (w.alloc (.cells #[.slice none 0 0, .slice none 0 0, .slice none 0 0, .slice none 0 0] 27)))).trans ((hb7.trans (hb9.mono hb7.size)).mono (z5 _))
 have HBA := zA (hbA.trans (hb10.mono hbA.size))
 have HBW := zA (HB.out.trans (HBA.out.mono HB.out.size))
 have HZ := zA ((HBA.out.block w.heap.size (blk_lt HZ0.out)).trans HZ0.out)
 have hbne : ((numR D 0 false 4).1 != IntKind.i64.wrap (4294967295 - overF 4294967295 T)) = false := by
  have hlim := overF_lim 4294967295 (by decide) T
  rw [i64_w, show wrap64 (4294967295 - overF 4294967295 T) = 4294967295 - overF 4294967295 T by unfold wrap64; omega]
  simpa using hsum
 have hbne2 : (numR D 0 false 4).1 = IntKind.i64.wrap (4294967295 - overF 4294967295 T) := by simpa using hbne
 clear hb7 hb8 hb9 hb10 hk9 hbA hI8 hI9
 go_wp2_with fail
 refine (PB.out _ HBA.out).mono ?_
 rintro e N1 ⟨N0, gr, rfl, hI, hn1, hn2⟩
 have hgw : w10.heap.size ≤ gr := Nat.le_trans hn1.size (by obtain ⟨_, _, hg, _⟩ := hI; exact hg)
 have HI0 := zA (And.intro (RI.of hI hn2) (hn1.trans (hn2.mono hn1.size)))
 have hgr := HI0.out.1.ltS
 have HI := zA (And.intro (HI0.out.1.below ((zX N1.heap.size N1).alloc (z5 _) (.cells #[.slice none 0 0, .slice none 0 0, .slice none 0 0, .slice none 0 0] 27))) (HI0.out.2.alloc HI0.out.2.size (.cells #[.slice none 0 0, .slice none 0 0, .slice none 0 0, .slice none 0 0] 27)))
 have HP := zA (heap_alloc_new N1 (.cells #[.slice none 0 0, .slice none 0 0, .slice none 0 0, .slice none 0 0] 27))
 have hgpw : w10.heap.size ≤ N1.heap.size := HI0.out.2.size
 have hZlt : w.heap.size < w10.heap.size := blk_lt HZ.out
 clear hI hn1 hn2 HI0 PN PT PB HBA
 go_wp2_with fail
 generalize N1.alloc (.cells #[.slice none 0 0, .slice none 0 0, .slice none 0 0, .slice none 0 0] 27) = W0 at HI HP ⊢
 generalize N1.heap.size = gp at HP hgr hgpw ⊢
 obtain ⟨t1, hT⟩ : ∃ t, takeS c 0 1 = t := ⟨_, rfl⟩
 obtain ⟨u1, hU⟩ : ∃ u, getR conR 1024 t1.2.1 = u := ⟨_, rfl⟩
 have hr := HR.out
 rw [read1 hT hU] at hr
 have TO := take_ok2 gr W0 c 0 1 HI.out.1 HOc.out
 have TN := take_no gr W0 c 0 1 HI.out.1 HOc.out
 have hok := takeS_ok (a := 0) (k := 1) HOc.out HLc.out
 rw [hT] at TO TN hok
 replace TO := zA TO
 replace TN := zA TN
 have GC := zA (fun A cc W hC hl => tab_GetConsts.calls A cc t1.2.1 u1.1 u1.2 W hC hl (by unfold tab_GetConsts.f; rw [if_pos hok, hU]))
 clear HR hT hU hok
 by_cases ht : t1.1 = 0
 rotate_left
 ·rw [if_pos ht] at hr
  subst hr
  refine (TN.out ht).mono ?_
  rintro e X1 ⟨rfl, hb1⟩
  exact ⟨rfl, .inr ⟨ht, rfl, HBW.out.trans ((HI.out.2.trans (hb1.mono hgw)).mono HBW.out.size)⟩⟩
 rw [if_neg (by simpa using ht)] at hr
 refine (TO.out ht).mono ?_
 rintro e X1 ⟨A, cc, rfl, hC, hl, h1, hk1, hb1⟩
 have HI1 := zA (And.intro h1 (HI.out.2.trans (hb1.mono hgw)))
 have HP1 := zA (hk1.blk HP.out (Nat.ne_of_gt hgr) (by simp))
 clear HI HP TO TN h1 hk1 hb1 ht
 go_wp2_with fail
 refine (GC.out A cc X1 hC hl).mono ?_
 rintro e X2 ⟨v, rfl, ho, hb2⟩
 obtain ⟨AC, cC, rfl, hlC, _⟩ := Kd.R_reads ho
 have HI2 := zA (And.intro (HI1.out.1.below hb2) (HI1.out.2.trans (hb2.mono HI1.out.2.size)))
 have hp2 := (hb2.block _ (blk_lt HP1.out)).trans HP1.out
 have HRC2 := zA (R_newer (base := w10.heap.size) ho HI1.out.2.size (blk_lt HP1.out))
 have fz := zF hp2 0
 have fc := (zC hp2 0).trans rfl
 have HI3 := zA (And.intro (HI2.out.1.far (p := ⟨gp, 0, none⟩) hgr (.slice AC u1.1.length cC)) (zE (j := 0) (v := .slice AC u1.1.length cC) HI2.out.2 hgpw))
 have HP3 := zA (blk_put (cs' := #[.slice AC u1.1.length cC, .slice none 0 0, .slice none 0 0, .slice none 0 0]) hp2 0 (.slice AC u1.1.length cC) rfl)

 have HRC3 := zA (Kd.R_far (p := ⟨gp, 0, none⟩) HRC2.out (fun k hk => Nat.ne_of_gt hk) (.slice AC u1.1.length cC))
 clear HI1 HP1 HI2 GC hC hl ho hb2 hp2 HRC2
 by_cases hq : u1.2 = 0
 rotate_left
 ·rw [if_pos hq] at hr
  subst hr
  go_wp2_with fail
  refine (MB.out u1.2 hq _).mono ?_
  rintro e X3 ⟨rfl, rfl⟩
  exact ⟨rfl, .inr ⟨hq, rfl, HBW.out.trans (HI3.out.2.mono HBW.out.size)⟩⟩
 rw [if_neg (by simpa using hq)] at hr
 rw [hq]
 go_wp2_with fail
 refine (MO.out _).mono ?_
 rintro e W1 ⟨rfl, hX3⟩
 rw [← hX3] at HI3 HP3 HRC3
 clear hX3 fz fc hq
 have HR := zA hr
 have HI := HI3
 have HP := HP3
 have HRC := HRC3
 clear HI3 HP3 hr HRC3
 go_wp2_with fail
 obtain ⟨t2, hT⟩ : ∃ t, takeS c t1.2.2 2 = t := ⟨_, rfl⟩
 obtain ⟨u2, hU⟩ : ∃ u, getR varR 64 t2.2.1 = u := ⟨_, rfl⟩
 have hr := HR.out
 rw [read2 hT hU] at hr
 have TO := take_ok2 gr W1 c t1.2.2 2 HI.out.1 HOc.out
 have TN := take_no gr W1 c t1.2.2 2 HI.out.1 HOc.out
 have hok := takeS_ok (a := t1.2.2) (k := 2) HOc.out HLc.out
 rw [hT] at TO TN hok
 replace TO := zA TO
 replace TN := zA TN
 have GC := zA (fun A cc W hC hl => tab_GetVars.calls A cc t2.2.1 u2.1 u2.2 W hC hl (by unfold tab_GetVars.f; rw [if_pos hok, hU]))
 clear HR hT hU hok
 by_cases ht : t2.1 = 0
 rotate_left
 ·rw [if_pos ht] at hr
  subst hr
  refine (TN.out ht).mono ?_
  rintro e X1 ⟨rfl, hb1⟩
  exact ⟨rfl, .inr ⟨ht, rfl, HBW.out.trans ((HI.out.2.trans (hb1.mono hgw)).mono HBW.out.size)⟩⟩
 rw [if_neg (by simpa using ht)] at hr
 refine (TO.out ht).mono ?_
 rintro e X1 ⟨A, cc, rfl, hC, hl, h1, hk1, hb1⟩
 have HI1 := zA (And.intro h1 (HI.out.2.trans (hb1.mono hgw)))
 have HP1 := zA (hk1.blk HP.out (Nat.ne_of_gt hgr) (by simp))
 have HRC1 := zA (Kd.R_keep HRC.out hk1 (fun k hk => Nat.ne_of_gt (Nat.lt_trans hgr hk)))
 clear HI HP TO TN h1 hk1 hb1 ht HRC
 go_wp2_with fail
 refine (GC.out A cc X1 hC hl).mono ?_
 rintro e X2 ⟨v, rfl, ho, hb2⟩
 obtain ⟨AV, cV, rfl, hlV, _⟩ := Kd.R_reads ho
 have HI2 := zA (And.intro (HI1.out.1.below hb2) (HI1.out.2.trans (hb2.mono HI1.out.2.size)))
 have hp2 := (hb2.block _ (blk_lt HP1.out)).trans HP1.out
 have HRC2 := zA (Kd.R_below HRC1.out hb2)
 have HRV2 := zA (R_newer (base := w10.heap.size) ho HI1.out.2.size (blk_lt HP1.out))
 have fz := zF hp2 1
 have fc := (zC hp2 1).trans rfl
 have HI3 := zA (And.intro (HI2.out.1.far (p := ⟨gp, 1, none⟩) hgr (.slice AV u2.1.length cV)) (zE (j := 1) (v := .slice AV u2.1.length cV) HI2.out.2 hgpw))
 have HP3 := zA (blk_put (cs' := #[.slice AC u1.1.length cC, .slice AV u2.1.length cV, .slice none 0 0, .slice none 0 0]) hp2 1 (.slice AV u2.1.length cV) rfl)

 have HRC3 := zA (Kd.R_far (p := ⟨gp, 1, none⟩) HRC2.out (fun k hk => Nat.ne_of_gt hk) (.slice AV u2.1.length cV))
 have HRV3 := zA (Kd.R_far (p := ⟨gp, 1, none⟩) HRV2.out (fun k hk => Nat.ne_of_gt hk) (.slice AV u2.1.length cV))
 clear HI1 HP1 HI2 GC hC hl ho hb2 hp2 HRC2 HRV2
 clear HRC1
 by_cases hq : u2.2 = 0
 rotate_left
 ·rw [if_pos hq] at hr
  subst hr
  go_wp2_with fail
  refine (MB.out u2.2 hq _).mono ?_
  rintro e X3 ⟨rfl, rfl⟩
  exact ⟨rfl, .inr ⟨hq, rfl, HBW.out.trans (HI3.out.2.mono HBW.out.size)⟩⟩
 rw [if_neg (by simpa using hq)] at hr
 rw [hq]
 go_wp2_with fail
 refine (MO.out _).mono ?_
 rintro e W2 ⟨rfl, hX3⟩
 rw [← hX3] at HI3 HP3 HRC3 HRV3
 clear hX3 fz fc hq
 have HR := zA hr
 have HI := HI3
 have HP := HP3
 have HRC := HRC3
 have HRV := HRV3
 clear HI3 HP3 hr HRC3 HRV3
 go_wp2_with fail
 obtain ⟨t3, hT⟩ : ∃ t, takeS c t2.2.2 3 = t := ⟨_, rfl⟩
 obtain ⟨u3, hU⟩ : ∃ u, getR blkR 32 t3.2.1 = u := ⟨_, rfl⟩
 have hr := HR.out
 rw [read3 hT hU] at hr
 have TO := take_ok2 gr W2 c t2.2.2 3 HI.out.1 HOc.out
 have TN := take_no gr W2 c t2.2.2 3 HI.out.1 HOc.out
 have hok := takeS_ok (a := t2.2.2) (k := 3) HOc.out HLc.out
 rw [hT] at TO TN hok
 replace TO := zA TO
 replace TN := zA TN
 have GC := zA (fun A cc W hC hl => tab_GetBlocks.calls A cc t3.2.1 u3.1 u3.2 W hC hl (by unfold tab_GetBlocks.f; rw [if_pos hok, hU]))
 clear HR hT hU hok
 by_cases ht : t3.1 = 0
 rotate_left
 ·rw [if_pos ht] at hr
  subst hr
  refine (TN.out ht).mono ?_
  rintro e X1 ⟨rfl, hb1⟩
  exact ⟨rfl, .inr ⟨ht, rfl, HBW.out.trans ((HI.out.2.trans (hb1.mono hgw)).mono HBW.out.size)⟩⟩
 rw [if_neg (by simpa using ht)] at hr
 refine (TO.out ht).mono ?_
 rintro e X1 ⟨A, cc, rfl, hC, hl, h1, hk1, hb1⟩
 have HI1 := zA (And.intro h1 (HI.out.2.trans (hb1.mono hgw)))
 have HP1 := zA (hk1.blk HP.out (Nat.ne_of_gt hgr) (by simp))
 have HRC1 := zA (Kd.R_keep HRC.out hk1 (fun k hk => Nat.ne_of_gt (Nat.lt_trans hgr hk)))
 have HRV1 := zA (Kd.R_keep HRV.out hk1 (fun k hk => Nat.ne_of_gt (Nat.lt_trans hgr hk)))
 clear HI HP TO TN h1 hk1 hb1 ht HRC HRV
 go_wp2_with fail
 refine (GC.out A cc X1 hC hl).mono ?_
 rintro e X2 ⟨v, rfl, ho, hb2⟩
 obtain ⟨AB, cB, rfl, hlB, _⟩ := Kd.R_reads ho
 have HI2 := zA (And.intro (HI1.out.1.below hb2) (HI1.out.2.trans (hb2.mono HI1.out.2.size)))
 have hp2 := (hb2.block _ (blk_lt HP1.out)).trans HP1.out
 have HRC2 := zA (Kd.R_below HRC1.out hb2)
 have HRV2 := zA (Kd.R_below HRV1.out hb2)
 have HRB2 := zA (R_newer (base := w10.heap.size) ho HI1.out.2.size (blk_lt HP1.out))
 have fz := zF hp2 2
 have fc := (zC hp2 2).trans rfl
 have HI3 := zA (And.intro (HI2.out.1.far (p := ⟨gp, 2, none⟩) hgr (.slice AB u3.1.length cB)) (zE (j := 2) (v := .slice AB u3.1.length cB) HI2.out.2 hgpw))
 have HP3 := zA (blk_put (cs' := #[.slice AC u1.1.length cC, .slice AV u2.1.length cV, .slice AB u3.1.length cB, .slice none 0 0]) hp2 2 (.slice AB u3.1.length cB) rfl)

 have HRC3 := zA (Kd.R_far (p := ⟨gp, 2, none⟩) HRC2.out (fun k hk => Nat.ne_of_gt hk) (.slice AB u3.1.length cB))
 have HRV3 := zA (Kd.R_far (p := ⟨gp, 2, none⟩) HRV2.out (fun k hk => Nat.ne_of_gt hk) (.slice AB u3.1.length cB))
 have HRB3 := zA (Kd.R_far (p := ⟨gp, 2, none⟩) HRB2.out (fun k hk => Nat.ne_of_gt hk) (.slice AB u3.1.length cB))
 clear HI1 HP1 HI2 GC hC hl ho hb2 hp2 HRC2 HRV2 HRB2
 clear HRC1
 clear HRV1
 by_cases hq : u3.2 = 0
 rotate_left
 ·rw [if_pos hq] at hr
  subst hr
  go_wp2_with fail
  refine (MB.out u3.2 hq _).mono ?_
  rintro e X3 ⟨rfl, rfl⟩
  exact ⟨rfl, .inr ⟨hq, rfl, HBW.out.trans (HI3.out.2.mono HBW.out.size)⟩⟩
 rw [if_neg (by simpa using hq)] at hr
 rw [hq]
 go_wp2_with fail
 refine (MO.out _).mono ?_
 rintro e W3 ⟨rfl, hX3⟩
 rw [← hX3] at HI3 HP3 HRC3 HRV3 HRB3
 clear hX3 fz fc hq
 have HR := zA hr
 have HI := HI3
 have HP := HP3
 have HRC := HRC3
 have HRV := HRV3
 have HRB := HRB3
 clear HI3 HP3 hr HRC3 HRV3 HRB3
 go_wp2_with fail
 obtain ⟨t4, hT⟩ : ∃ t, takeS c t3.2.2 4 = t := ⟨_, rfl⟩
 obtain ⟨u4, hU⟩ : ∃ u, unitsR t4.2.1 = u := ⟨_, rfl⟩
 have hr := HR.out
 rw [read4 hT hU] at hr
 have TO := take_ok2 gr W3 c t3.2.2 4 HI.out.1 HOc.out
 have TN := take_no gr W3 c t3.2.2 4 HI.out.1 HOc.out
 have hok := takeS_ok (a := t3.2.2) (k := 4) HOc.out HLc.out
 have hlt := Nat.le_trans (takeS_len (c := c) (a := t3.2.2) (k := 4)) HLc.out
 rw [hT] at TO TN hok hlt
 replace TO := zA TO
 replace TN := zA TN
 have UC := zA (fun w0 g W h hL hB hg => units_calls w0 g W t4.2.1 h hok hlt hL hB hg)
 rw [hU] at UC
 have HLT := zA hlt
 clear HR hT hU hok hlt
 by_cases ht : t4.1 = 0
 rotate_left
 ·rw [if_pos ht] at hr
  subst hr
  refine (TN.out ht).mono ?_
  rintro e X1 ⟨rfl, hb1⟩
  exact ⟨rfl, .inr ⟨ht, rfl, HBW.out.trans ((HI.out.2.trans (hb1.mono hgw)).mono HBW.out.size)⟩⟩
 rw [if_neg (by simpa using ht)] at hr
 refine (TO.out ht).mono ?_
 rintro e X1 ⟨A, cc, rfl, hC, hl, h1, hk1, hb1⟩
 have HI1 := zA (And.intro h1 (HI.out.2.trans (hb1.mono hgw)))
 have HP1 := zA (hk1.blk HP.out (Nat.ne_of_gt hgr) (by simp))
 have HRC1 := zA (Kd.R_keep HRC.out hk1 (fun k hk => Nat.ne_of_gt (Nat.lt_trans hgr hk)))
 have HRV1 := zA (Kd.R_keep HRV.out hk1 (fun k hk => Nat.ne_of_gt (Nat.lt_trans hgr hk)))
 have HRB1 := zA (Kd.R_keep HRB.out hk1 (fun k hk => Nat.ne_of_gt (Nat.lt_trans hgr hk)))
 clear HI HP TO TN h1 hk1 hb1 ht HRC HRV HRB
 go_wp2_with fail
 refine (new_calls A cc t4.2.1 X1 hC hl (by have := HLT.out; omega)).mono ?_
 rintro e X2 ⟨X0, g2, rfl, hI2, hb2, hb3⟩
 have hg2 : X1.heap.size ≤ g2 := Nat.le_trans hb2.size (by obtain ⟨_, _, hg, _⟩ := hI2; exact hg)
 have hbN : Below X1.heap.size X1 X2 := hb2.trans (hb3.mono hb2.size)
 have HUN := zA (UC.out X1 g2 X2 (RI.of hI2 hb3) (HL.out.below (HBW.out.trans (HI1.out.2.mono HBW.out.size))) hbN hg2)
 clear UC hC hl hI2 hb2 hb3
 go_wp2_with fail
 refine HUN.out.mono ?_
 rintro e X3 hU4
 clear HUN
 rcases hU4 with ⟨hq, ⟨v, rfl, ho⟩, hb4⟩ | ⟨hq, rfl, hb4⟩
 rotate_left
 ·rw [if_pos hq] at hr
  subst hr
  exact ⟨rfl, .inr ⟨hq, rfl, HBW.out.trans (((HI1.out.2.trans (hbN.mono HI1.out.2.size)).trans (hb4.mono (Nat.le_trans HI1.out.2.size hg2))).mono HBW.out.size)⟩⟩
 rw [if_neg (by simpa using hq)] at hr
 obtain ⟨AU, cU, rfl, hlU, _⟩ := Kd.R_reads ho
 have HI2 := zA (And.intro (HI1.out.1.le (fun k hk => (hb4.block k (by have := HI1.out.1.ltS; omega)).trans (hbN.block k (by have := HI1.out.1.ltS; omega)))) ((HI1.out.2.trans (hbN.mono HI1.out.2.size)).trans (hb4.mono (Nat.le_trans HI1.out.2.size hg2))))
 have hp2 := ((hb4.block gp (Nat.lt_of_lt_of_le (blk_lt HP1.out) hg2)).trans (hbN.block gp (blk_lt HP1.out))).trans HP1.out
 have HRC2 := zA (R_old HRC1.out hbN hb4 hg2)
 have HRV2 := zA (R_old HRV1.out hbN hb4 hg2)
 have HRB2 := zA (R_old HRB1.out hbN hb4 hg2)
 have HRU2 := zA (R_newer (base := w10.heap.size) (gp := gp) (Kd.R_mono ho (fun _ _ => trivial)) (Nat.le_trans HI1.out.2.size hg2) (Nat.lt_of_lt_of_le (blk_lt HP1.out) hg2))
 have fz := zF hp2 3
 have fc := (zC hp2 3).trans rfl
 have HI3 := zA (And.intro (HI2.out.1.far (p := ⟨gp, 3, none⟩) hgr (.slice AU u4.1.length cU)) (zE (j := 3) (v := .slice AU u4.1.length cU) HI2.out.2 hgpw))
 have HP3 := zA (blk_put (cs' := #[.slice AC u1.1.length cC, .slice AV u2.1.length cV, .slice AB u3.1.length cB, .slice AU u4.1.length cU]) hp2 3 (.slice AU u4.1.length cU) rfl)

 have HRC3 := zA (Kd.R_far (p := ⟨gp, 3, none⟩) HRC2.out (fun k hk => Nat.ne_of_gt hk) (.slice AU u4.1.length cU))
 have HRV3 := zA (Kd.R_far (p := ⟨gp, 3, none⟩) HRV2.out (fun k hk => Nat.ne_of_gt hk) (.slice AU u4.1.length cU))
 have HRB3 := zA (Kd.R_far (p := ⟨gp, 3, none⟩) HRB2.out (fun k hk => Nat.ne_of_gt hk) (.slice AU u4.1.length cU))
 have HRU3 := zA (Kd.R_far (p := ⟨gp, 3, none⟩) HRU2.out (fun k hk => Nat.ne_of_gt hk) (.slice AU u4.1.length cU))
 clear HI1 HP1 HI2 ho hb4 hbN hp2 HRC2 HRV2 HRB2 HRU2
 clear HRC1
 clear HRV1
 clear HRB1
 have H5 := zA (left_i gr _ c t4.2.2 HI3.out.1)
 by_cases hz : (c.length : Int) - t4.2.2 > 0
 ·rw [if_pos hz] at hr
  subst hr
  go_wp2_with fail
  refine H5.out.mono ?_
  rintro e X4 ⟨rfl, m6, rfl⟩
  go_wp2_with fail
  refine (MB.out 4 (by decide) _).mono ?_
  rintro e X5 ⟨rfl, rfl⟩
  exact ⟨rfl, .inr ⟨by show ¬ (4 : Int) = 0; decide, rfl, HBW.out.trans ((zN HI3.out.2 m6).mono HBW.out.size)⟩⟩
 ·rw [if_neg hz] at hr
  subst hr
  go_wp2_with fail
  refine H5.out.mono ?_
  rintro e X4 ⟨rfl, m6, rfl⟩
  have HB4 := zA (zN HI3.out.2 m6)
  have HP4 := zA (show ((X3.setCell ⟨gp, 3, none⟩ (.slice AU u4.1.length cU)).drewN m6).heap[gp]? = _ from HP3.out)
  have HRC4 := zA (zS HRC3.out m6)
  have HRV4 := zA (zS HRV3.out m6)
  have HRB4 := zA (zS HRB3.out m6)
  have HRU4 := zA (zS HRU3.out m6)
  clear HI3 HP3 H5 fz fc HRC3 HRV3 HRB3 HRU3
  generalize (X3.setCell ⟨gp, 3, none⟩ (.slice AU u4.1.length cU)).drewN m6 = X5 at HB4 HP4 HRC4 HRV4 HRB4 HRU4 ⊢
  have HZ5 := zA ((HB4.out.block w.heap.size hZlt).trans HZ.out)
  go_wp2_with (first
   | ((with_reducible refine gate_dst (N := 78) rfl ?_); refine wpList_load_row rfl 27 (.tmp 5) rfl gp rfl 27 _ (0, 0) _ HP4.out Tryd.underlying27 rfl (by rw [hip]; rfl) ?_)
   | ((with_reducible refine gate_store (t := 27) (p := 2) (v := .tmp 78) rfl ?_); refine wpList_store_row rfl 27 (.tmp 2) (.tmp 78) rfl w.heap.size #[.slice AC u1.1.length cC, .slice AV u2.1.length cV, .slice AB u3.1.length cB, .slice AU u4.1.length cU] rfl rfl 27 _ HZ5.out (by rw [hip]; rfl) rfl (by kernel_rfl) ?_))
  refine bodyPost_ret (results_single rfl (.cell w.heap.size 27 #[.slice AC u1.1.length cC, .slice AV u2.1.length cV, .slice AB u3.1.length cB, .slice AU u4.1.length cU] (0, 0) _ rfl (setRow_heap _ _ _ _ _ _ HZ5.out) Tryd.underlying27 rfl hip .nil)) rfl ?_
  have hlast : ∀ {α : Type} {d : Kd α} {e : Nat} {v : Value} {xs : List α}, d.R e X5 w10.heap.size (fun k => gp < k) v xs → d.R e (X5.setRow w.heap.size #[.slice AC u1.1.length cC, .slice AV u2.1.length cV, .slice AB u3.1.length cB, .slice AU u4.1.length cU]) w10.heap.size (fun k => gp < k) v xs := fun h => Kd.R_keep h (keep_setRow _ w.heap.size _) (fun k hk => by have : gp < k := hk; omega)
  exact .inl ⟨rfl, ⟨⟨AC, cC, u1.1, AV, cV, u2.1, AB, cB, u3.1, AU, cU, u4.1⟩, rfl, ⟨Kd.R_lower (Kd.R_mono (hlast HRC4.out) (fun _ _ => trivial)) HBW.out.size, Kd.R_lower (Kd.R_mono (hlast HRV4.out) (fun _ _ => trivial)) HBW.out.size, Kd.R_lower (Kd.R_mono (hlast HRB4.out) (fun _ _ => trivial)) HBW.out.size, Kd.R_lower (Kd.R_mono (hlast HRU4.out) (fun _ _ => trivial)) HBW.out.size⟩, rfl⟩, below_setRow (HBW.out.trans (HB4.out.mono HBW.out.size)) (z5 _) _⟩
end Go.Proofs.YtdbfgfgbjheibaaDoor.Given
end

section
/- The document's fill: a section's part of a program. -/
namespace Go.Proofs.YtdbfgfgbjheibaaDoor.Given
open Go Go.RowKit Go.Proofs.YtdbfgfgbjheibaaDoor Go.Proofs.YtdbfgfgbjheibaaDoorW.PrintWords Go.Proofs.YtdbfgfgbjheibaaDoorW.PrintLast Go.Proofs.YtdbfgfgbjheibaaDoorW.PrintMore
set_option linter.unusedVariables false
set_option linter.unusedSimpArgs false
def fillR (k : Int) (t : List Int) (P : PD) : Int × PD :=
 if k = 1 then ((getR conR 1024 t).2, ((getR conR 1024 t).1, P.2)) else
 if k = 2 then ((getR varR 64 t).2, (P.1, (getR varR 64 t).1, P.2.2)) else
 if k = 3 then ((getR blkR 32 t).2, (P.1, P.2.1, (getR blkR 32 t).1, P.2.2.2)) else
 ((unitsR t).2, (P.1, P.2.1, P.2.2.1, (unitsR t).1))
def BR.lists (u : BPure.BR) : PD := (u.C, u.V, u.B, u.U)
/-- A program that is being filled: its block gp, its lists' rows behind it. -/
structure PSt (u : BPure.BR) (W : World) (base gp : Nat) : Prop where
 blk : W.heap[gp]? = some (.cells u.cells 27 (0, 0))
 c : Kd.R PBx.k68 68 W base (fun k => gp < k) (.slice u.A0 u.C.length u.c0) u.C
 v : Kd.R PBx.k41 41 W base (fun k => gp < k) (.slice u.A1 u.V.length u.c1) u.V
 b : Kd.R PBx.k43 43 W base (fun k => gp < k) (.slice u.A2 u.B.length u.c2) u.B
 d : Kd.R PBx.k48 48 W base (fun k => gp < k) (.slice u.A3 u.U.length u.c3) u.U
theorem PSt.keep {u : BPure.BR} {W W2 : World} {base gp g : Nat} (h : PSt u W base gp) (hk : KeepBut W W2 g none) (hg : g < gp) : PSt u W2 base gp :=
 ⟨hk.blk h.blk (Nat.ne_of_gt hg) (by simp), Kd.R_keep h.c hk (fun k hk => Nat.ne_of_gt (Nat.lt_trans hg hk)), Kd.R_keep h.v hk (fun k hk => Nat.ne_of_gt (Nat.lt_trans hg hk)), Kd.R_keep h.b hk (fun k hk => Nat.ne_of_gt (Nat.lt_trans hg hk)), Kd.R_keep h.d hk (fun k hk => Nat.ne_of_gt (Nat.lt_trans hg hk))⟩
theorem PSt.below {u : BPure.BR} {W W2 : World} {base gp : Nat} (h : PSt u W base gp) (hb : Below W.heap.size W W2) : PSt u W2 base gp :=
 ⟨(hb.block _ (blk_lt h.blk)).trans h.blk, Kd.R_below h.c hb, Kd.R_below h.v hb, Kd.R_below h.b hb, Kd.R_below h.d hb⟩
/-- What the call tells: the code, the program filled; nothing ahead of it has changed. -/
def FPost (r : Int × PD) (base gp : Nat) (W : World) (e : Ending) (w' : World) : Prop := ∃ u : BPure.BR, e = .returned (.int .i64 r.1) ∧ PSt u w' base gp ∧ BR.lists u = r.2 ∧ Below gp W w'
set_option maxHeartbeats 2000000 in
theorem fill1 (gp base : Nat) (W : World) (u : BPure.BR) (A1 : Option Addr) (d1 : Nat) (t : List Int) (h : PSt u W base gp) (hC : Kd.C (Kd.int .u8) W A1 t.length t) (hc : t.length ≤ d1) (hb : okB t = true) (hl : t.length ≤ 90000) (hbg : base ≤ W.heap.size) :
  Calls Tryd.prog 43 #[.pointer (some ⟨gp, 0, none⟩), .int .i64 1, .slice A1 t.length d1] W fun e w' => FPost (fillR 1 t (BR.lists u)) base gp W e w' := by
 obtain ⟨r, hr⟩ : ∃ r, getR conR 1024 t = r := ⟨_, rfl⟩
 have hF : fillR 1 t (BR.lists u) = (r.2, (r.1, u.V, u.B, u.U)) := by subst hr; rfl
 rw [hF]
 have HG := r14_GetConsts.calls A1 d1 t r.1 r.2 W hC hc (by unfold r14_GetConsts.f; rw [if_pos hb, hr])
 have HGA := zA HG
 have HS := zA h
 clear HG h hC hc hb hl hF hr
 go_enter Tryd.func43, Tryd.ntmps43
 go_wp2_with fail
 refine HGA.out.mono ?_
 rintro e W2 ⟨v, rfl, ho, hb2⟩
 obtain ⟨A, c, rfl, _, _⟩ := Kd.R_reads ho
 have hs2 := HS.out.below hb2
 have HN := zA (R_newer (base := base) ho hbg (blk_lt HS.out.blk))
 have HS2 := zA hs2
 have fz := zF hs2.blk 0
 have fc := (zC hs2.blk 0).trans rfl
 have HB := zA (hb2.mono (Nat.le_of_lt (blk_lt HS.out.blk)))
 clear hs2 ho hb2 HS HGA
 go_wp2_with fail
 go_ret
 exact ⟨⟨A, c, r.1, u.A1, u.c1, u.V, u.A2, u.c2, u.B, u.A3, u.c3, u.U⟩, rfl, ⟨blk_put (cs' := #[.slice A r.1.length c, .slice u.A1 u.V.length u.c1, .slice u.A2 u.B.length u.c2, .slice u.A3 u.U.length u.c3]) HS2.out.blk 0 (.slice A r.1.length c) rfl, Kd.R_far (p := ⟨gp, 0, none⟩) HN.out (fun k hk => Nat.ne_of_gt hk) _, Kd.R_far (p := ⟨gp, 0, none⟩) HS2.out.v (fun k hk => Nat.ne_of_gt hk) _, Kd.R_far (p := ⟨gp, 0, none⟩) HS2.out.b (fun k hk => Nat.ne_of_gt hk) _, Kd.R_far (p := ⟨gp, 0, none⟩) HS2.out.d (fun k hk => Nat.ne_of_gt hk) _⟩, rfl, HB.out.setCell (z5 _) _⟩
set_option maxHeartbeats 2000000 in
theorem fill2 (gp base : Nat) (W : World) (u : BPure.BR) (A1 : Option Addr) (d1 : Nat) (t : List Int) (h : PSt u W base gp) (hC : Kd.C (Kd.int .u8) W A1 t.length t) (hc : t.length ≤ d1) (hb : okB t = true) (hl : t.length ≤ 90000) (hbg : base ≤ W.heap.size) :
  Calls Tryd.prog 43 #[.pointer (some ⟨gp, 0, none⟩), .int .i64 2, .slice A1 t.length d1] W fun e w' => FPost (fillR 2 t (BR.lists u)) base gp W e w' := by
 obtain ⟨r, hr⟩ : ∃ r, getR varR 64 t = r := ⟨_, rfl⟩
 have hF : fillR 2 t (BR.lists u) = (r.2, (u.C, r.1, u.B, u.U)) := by subst hr; rfl
 rw [hF]
 have HG := r14_GetVars.calls A1 d1 t r.1 r.2 W hC hc (by unfold r14_GetVars.f; rw [if_pos hb, hr])
 have HGA := zA HG
 have HS := zA h
 clear HG h hC hc hb hl hF hr
 go_enter Tryd.func43, Tryd.ntmps43
 go_wp2_with fail
 refine HGA.out.mono ?_
 rintro e W2 ⟨v, rfl, ho, hb2⟩
 obtain ⟨A, c, rfl, _, _⟩ := Kd.R_reads ho
 have hs2 := HS.out.below hb2
 have HN := zA (R_newer (base := base) ho hbg (blk_lt HS.out.blk))
 have HS2 := zA hs2
 have fz := zF hs2.blk 1
 have fc := (zC hs2.blk 1).trans rfl
 have HB := zA (hb2.mono (Nat.le_of_lt (blk_lt HS.out.blk)))
 clear hs2 ho hb2 HS HGA
 go_wp2_with fail
 go_ret
 exact ⟨⟨u.A0, u.c0, u.C, A, c, r.1, u.A2, u.c2, u.B, u.A3, u.c3, u.U⟩, rfl, ⟨blk_put (cs' := #[.slice u.A0 u.C.length u.c0, .slice A r.1.length c, .slice u.A2 u.B.length u.c2, .slice u.A3 u.U.length u.c3]) HS2.out.blk 1 (.slice A r.1.length c) rfl, Kd.R_far (p := ⟨gp, 1, none⟩) HS2.out.c (fun k hk => Nat.ne_of_gt hk) _, Kd.R_far (p := ⟨gp, 1, none⟩) HN.out (fun k hk => Nat.ne_of_gt hk) _, Kd.R_far (p := ⟨gp, 1, none⟩) HS2.out.b (fun k hk => Nat.ne_of_gt hk) _, Kd.R_far (p := ⟨gp, 1, none⟩) HS2.out.d (fun k hk => Nat.ne_of_gt hk) _⟩, rfl, HB.out.setCell (z5 _) _⟩
set_option maxHeartbeats 2000000 in
theorem fill3 (gp base : Nat) (W : World) (u : BPure.BR) (A1 : Option Addr) (d1 : Nat) (t : List Int) (h : PSt u W base gp) (hC : Kd.C (Kd.int .u8) W A1 t.length t) (hc : t.length ≤ d1) (hb : okB t = true) (hl : t.length ≤ 90000) (hbg : base ≤ W.heap.size) :
  Calls Tryd.prog 43 #[.pointer (some ⟨gp, 0, none⟩), .int .i64 3, .slice A1 t.length d1] W fun e w' => FPost (fillR 3 t (BR.lists u)) base gp W e w' := by
 obtain ⟨r, hr⟩ : ∃ r, getR blkR 32 t = r := ⟨_, rfl⟩
 have hF : fillR 3 t (BR.lists u) = (r.2, (u.C, u.V, r.1, u.U)) := by subst hr; rfl
 rw [hF]
 have HG := r14_GetBlocks.calls A1 d1 t r.1 r.2 W hC hc (by unfold r14_GetBlocks.f; rw [if_pos hb, hr])
 have HGA := zA HG
 have HS := zA h
 clear HG h hC hc hb hl hF hr
 go_enter Tryd.func43, Tryd.ntmps43
 go_wp2_with fail
 refine HGA.out.mono ?_
 rintro e W2 ⟨v, rfl, ho, hb2⟩
 obtain ⟨A, c, rfl, _, _⟩ := Kd.R_reads ho
 have hs2 := HS.out.below hb2
 have HN := zA (R_newer (base := base) ho hbg (blk_lt HS.out.blk))
 have HS2 := zA hs2
 have fz := zF hs2.blk 2
 have fc := (zC hs2.blk 2).trans rfl
 have HB := zA (hb2.mono (Nat.le_of_lt (blk_lt HS.out.blk)))
 clear hs2 ho hb2 HS HGA
 go_wp2_with fail
 go_ret
 exact ⟨⟨u.A0, u.c0, u.C, u.A1, u.c1, u.V, A, c, r.1, u.A3, u.c3, u.U⟩, rfl, ⟨blk_put (cs' := #[.slice u.A0 u.C.length u.c0, .slice u.A1 u.V.length u.c1, .slice A r.1.length c, .slice u.A3 u.U.length u.c3]) HS2.out.blk 2 (.slice A r.1.length c) rfl, Kd.R_far (p := ⟨gp, 2, none⟩) HS2.out.c (fun k hk => Nat.ne_of_gt hk) _, Kd.R_far (p := ⟨gp, 2, none⟩) HS2.out.v (fun k hk => Nat.ne_of_gt hk) _, Kd.R_far (p := ⟨gp, 2, none⟩) HN.out (fun k hk => Nat.ne_of_gt hk) _, Kd.R_far (p := ⟨gp, 2, none⟩) HS2.out.d (fun k hk => Nat.ne_of_gt hk) _⟩, rfl, HB.out.setCell (z5 _) _⟩
set_option maxHeartbeats 2000000 in
theorem fill4 (gp base : Nat) (W : World) (u : BPure.BR) (A1 : Option Addr) (d1 : Nat) (t : List Int) (h : PSt u W base gp) (hC : Kd.C (Kd.int .u8) W A1 t.length t) (hc : t.length ≤ d1) (hb : okB t = true) (hl : t.length ≤ 90000) (hbg : base ≤ W.heap.size) :
  Calls Tryd.prog 43 #[.pointer (some ⟨gp, 0, none⟩), .int .i64 4, .slice A1 t.length d1] W fun e w' => FPost (fillR 4 t (BR.lists u)) base gp W e w' := by
 obtain ⟨r, hr⟩ : ∃ r, unitsR t = r := ⟨_, rfl⟩
 have hF : fillR 4 t (BR.lists u) = (r.2, (u.C, u.V, u.B, r.1)) := by subst hr; rfl
 rw [hF]
 have HG := runits_calls A1 d1 t W hC hc hb hl
 rw [hr] at HG
 have HGA := zA HG
 have HS := zA h
 clear HG h hC hc hb hl hF hr
 go_enter Tryd.func43, Tryd.ntmps43
 go_wp2_with fail
 refine HGA.out.mono ?_
 rintro e W2 ⟨v, rfl, ho, hb2⟩
 obtain ⟨A, c, rfl, _, _⟩ := Kd.R_reads ho
 have hs2 := HS.out.below hb2
 have HN := zA (R_newer (base := base) ho hbg (blk_lt HS.out.blk))
 have HS2 := zA hs2
 have fz := zF hs2.blk 3
 have fc := (zC hs2.blk 3).trans rfl
 have HB := zA (hb2.mono (Nat.le_of_lt (blk_lt HS.out.blk)))
 clear hs2 ho hb2 HS HGA
 go_wp2_with fail
 go_ret
 exact ⟨⟨u.A0, u.c0, u.C, u.A1, u.c1, u.V, u.A2, u.c2, u.B, A, c, r.1⟩, rfl, ⟨blk_put (cs' := #[.slice u.A0 u.C.length u.c0, .slice u.A1 u.V.length u.c1, .slice u.A2 u.B.length u.c2, .slice A r.1.length c]) HS2.out.blk 3 (.slice A r.1.length c) rfl, Kd.R_far (p := ⟨gp, 3, none⟩) HS2.out.c (fun k hk => Nat.ne_of_gt hk) _, Kd.R_far (p := ⟨gp, 3, none⟩) HS2.out.v (fun k hk => Nat.ne_of_gt hk) _, Kd.R_far (p := ⟨gp, 3, none⟩) HS2.out.b (fun k hk => Nat.ne_of_gt hk) _, Kd.R_far (p := ⟨gp, 3, none⟩) HN.out (fun k hk => Nat.ne_of_gt hk) _⟩, rfl, HB.out.setCell (z5 _) _⟩
theorem fill_calls (k : Int) (hk : k = 1 ∨ k = 2 ∨ k = 3 ∨ k = 4) (gp base : Nat) (W : World) (u : BPure.BR) (A1 : Option Addr) (d1 : Nat) (t : List Int) (h : PSt u W base gp) (hC : Kd.C (Kd.int .u8) W A1 t.length t) (hc : t.length ≤ d1) (hb : okB t = true) (hl : t.length ≤ 90000) (hbg : base ≤ W.heap.size) :
  Calls Tryd.prog 43 #[.pointer (some ⟨gp, 0, none⟩), .int .i64 k, .slice A1 t.length d1] W fun e w' => FPost (fillR k t (BR.lists u)) base gp W e w' := by
 rcases hk with rfl | rfl | rfl | rfl
 ·exact fill1 gp base W u A1 d1 t h hC hc hb hl hbg
 ·exact fill2 gp base W u A1 d1 t h hC hc hb hl hbg
 ·exact fill3 gp base W u A1 d1 t h hC hc hb hl hbg
 ·exact fill4 gp base W u A1 d1 t h hC hc hb hl hbg
/-- The rest of a container from its section k on. -/
def readK : Nat → List Int → Int → PD → Int → Int × PD
 | 0, c, k, P, a => if (c.length : Int) - a > 0 then (4, noP) else (0, P)
 | n + 1, c, k, P, a =>
  if ¬ (takeS c a k).1 = 0 then ((takeS c a k).1, noP) else
  if ¬ (fillR k (takeS c a k).2.1 P).1 = 0 then ((fillR k (takeS c a k).2.1 P).1, noP) else
  readK n c (k + 1) (fillR k (takeS c a k).2.1 P).2 (takeS c a k).2.2
theorem fillR1 (t : List Int) (P : PD) : fillR 1 t P = ((getR conR 1024 t).2, ((getR conR 1024 t).1, P.2)) := by unfold fillR; rw [if_pos rfl]
theorem fillR2 (t : List Int) (P : PD) : fillR 2 t P = ((getR varR 64 t).2, (P.1, (getR varR 64 t).1, P.2.2)) := by unfold fillR; rw [if_neg (by decide), if_pos rfl]
theorem fillR3 (t : List Int) (P : PD) : fillR 3 t P = ((getR blkR 32 t).2, (P.1, P.2.1, (getR blkR 32 t).1, P.2.2.2)) := by unfold fillR; rw [if_neg (by decide), if_neg (by decide), if_pos rfl]
theorem fillR4 (t : List Int) (P : PD) : fillR 4 t P = ((unitsR t).2, (P.1, P.2.1, P.2.2.1, (unitsR t).1)) := by unfold fillR; rw [if_neg (by decide), if_neg (by decide), if_neg (by decide)]
theorem readK_4 (c : List Int) (C : List SC) (V : List SV) (B : List SB) (a : Int) : readK 1 c 4 (C, V, B, []) a = readC4 c C V B a := by
 unfold readK readC4
 rw [fillR4]
 generalize takeS c a 4 = t
 generalize unitsR t.2.1 = u
 unfold readK
 rfl
theorem readK_3 (c : List Int) (C : List SC) (V : List SV) (a : Int) : readK 2 c 3 (C, V, [], []) a = readC3 c C V a := by
 unfold readK readC3
 rw [fillR3]
 generalize takeS c a 3 = t
 generalize getR blkR 32 t.2.1 = u
 dsimp only
 rw [show ((3 : Int) + 1) = 4 from rfl, readK_4]
theorem readK_2 (c : List Int) (C : List SC) (a : Int) : readK 3 c 2 (C, [], [], []) a = readC2 c C a := by
 unfold readK readC2
 rw [fillR2]
 generalize takeS c a 2 = t
 generalize getR varR 64 t.2.1 = u
 dsimp only
 rw [show ((2 : Int) + 1) = 3 from rfl, readK_3]
theorem readK_is (c : List Int) : readK 4 c 1 noP 0 = readC1 c 0 := by
 unfold readK readC1
 rw [fillR1]
 generalize takeS c 0 1 = t
 generalize getR conR 1024 t.2.1 = u
 dsimp only [noP]
 rw [show ((1 : Int) + 1) = 2 from rfl, readK_2]
end Go.Proofs.YtdbfgfgbjheibaaDoor.Given
end

section
/- box.Decode where box.read throws: what is thrown comes back. -/
namespace Go.Proofs.YtdbfgfgbjheibaaDoor.Given
open Go Go.RowKit Go.Proofs.YtdbfgfgbjheibaaDoor Go.Proofs.YtdbfgfgbjheibaaDoorW.PrintWords Go.Proofs.YtdbfgfgbjheibaaDoorW.PrintLast Go.Proofs.YtdbfgfgbjheibaaDoorW.PrintMore
set_option linter.unusedVariables false
set_option linter.unusedSimpArgs false
set_option maxRecDepth 100000 in
set_option maxHeartbeats 1000000 in
theorem decode_wrong (A0 : Option Addr) (l0 c0 : Nat) (n : Int) (w : World)
  (hread : ∀ W, Below w.heap.size w W → Calls Tryd.prog 25 #[.slice A0 l0 c0] W fun e w' => e = .panicked [{ v := .iface 59 (.agg #[.int .i64 n]), recovered := false }] ∧ Below W.heap.size W w') :
  Calls Tryd.prog 10 #[.slice A0 l0 c0] w fun e w' => e = .returned (.tuple #[.agg #[.slice none 0 0, .slice none 0 0, .slice none 0 0, .slice none 0 0], .int .i64 n]) ∧ Below w.heap.size w w' := by
 have hmf : ∀ (fn : Fn) (first cap : Array Value) (w : World), (Instr.makeFunc fn first cap).run Tryd.prog w = .ok (.func fn first cap) w := fun _ _ _ _ => rfl
 have HR := zA hread
 clear hread
 go_enter_defers Tryd.func10, Tryd.ntmps10
 go_wp2_with fail
 have hB : Below w.heap.size w ((w.alloc (.cells #[.slice none 0 0, .slice none 0 0, .slice none 0 0, .slice none 0 0] 27)).alloc (.cells #[.int .i64 0] 33)) := ((zX _ _).alloc (z5 _) _).alloc (by simp) _
 have hgp : ((w.alloc (.cells #[.slice none 0 0, .slice none 0 0, .slice none 0 0, .slice none 0 0] 27)).alloc (.cells #[.int .i64 0] 33)).heap[w.heap.size]? = some (.cells #[.slice none 0 0, .slice none 0 0, .slice none 0 0, .slice none 0 0] 27 (0, 0)) := ((zX _ (w.alloc (.cells #[.slice none 0 0, .slice none 0 0, .slice none 0 0, .slice none 0 0] 27))).alloc (z5 _) _).block w.heap.size (by simp) |>.trans (heap_alloc_new w _)
 have hgq : ((w.alloc (.cells #[.slice none 0 0, .slice none 0 0, .slice none 0 0, .slice none 0 0] 27)).alloc (.cells #[.int .i64 0] 33)).heap[w.heap.size + 1]? = some (.cells #[.int .i64 0] 33 (0, 0)) := by
  have := heap_alloc_new (w.alloc (.cells #[.slice none 0 0, .slice none 0 0, .slice none 0 0, .slice none 0 0] 27)) (.cells #[.int .i64 0] 33)
  simpa using this
 refine (HR.out _ hB).mono ?_
 rintro e w2 ⟨rfl, hb⟩
 have hp2 := (hb.block _ (blk_lt hgp)).trans hgp
 have hq2 := (hb.block _ (blk_lt hgq)).trans hgq
 have hB2 := hB.trans (hb.mono hB.size)
 dsimp only
 try simp only [Exit.then]
 try dsimp only
 refine leaves_cons (f := 24) (args := #[.pointer (some ⟨w.heap.size, 0, none⟩), .pointer (some ⟨w.heap.size + 1, 0, none⟩)]) (by simp) (by simp [go_sem]) ?_
 refine (catch_wrong n w.heap.size (w.heap.size + 1) w2 hp2 hq2 (by omega)).mono ?_
 rintro e u' w3 ⟨rfl, rfl, hW3⟩
 have ha := (zX w2.heap.size w2).alloc (z5 _) (.cells #[.int .i64 n] 59)
 have hp3 := (ha.block _ (blk_lt hp2)).trans hp2
 have hq3 := (ha.block _ (blk_lt hq2)).trans hq2
 have k0 := (zC hp3 0).trans rfl
 have k1 := (zC hp3 1).trans rfl
 have k2 := (zC hp3 2).trans rfl
 have k3 := (zC hp3 3).trans rfl
 have kq := (zC hq3 0).trans rfl
 have hne : w.heap.size + 1 ≠ w.heap.size := by omega
 have hB3 : Below w.heap.size w w3 := by
  rw [hW3]
  have q := zE (j := 0) (v := .int .i64 n) (g := w.heap.size + 1) (zE (j := 3) (v := .slice none 0 0) (zE (j := 2) (v := .slice none 0 0) (zE (j := 1) (v := .slice none 0 0) (zE (j := 0) (v := .slice none 0 0) (hB2.trans (ha.mono hB2.size)) (z5 _)) (z5 _)) (z5 _)) (z5 _)) (Nat.le_succ _)
  first | exact below_drew1 q | exact q
 have c0 : w3.cell? ⟨w.heap.size, 0, none⟩ = some (.slice none 0 0) := by rw [hW3]; simp [go_sem, k0, k1, k2, k3, kq, hne]
 have c1 : w3.cell? ⟨w.heap.size, 1, none⟩ = some (.slice none 0 0) := by rw [hW3]; simp [go_sem, k0, k1, k2, k3, kq, hne]
 have c2 : w3.cell? ⟨w.heap.size, 2, none⟩ = some (.slice none 0 0) := by rw [hW3]; simp [go_sem, k0, k1, k2, k3, kq, hne]
 have c3 : w3.cell? ⟨w.heap.size, 3, none⟩ = some (.slice none 0 0) := by rw [hW3]; simp [go_sem, k0, k1, k2, k3, kq, hne]
 have cq : w3.cell? ⟨w.heap.size + 1, 0, none⟩ = some (.int .i64 n) := by rw [hW3]; simp [go_sem, k0, k1, k2, k3, kq, hne]
 clear hW3 k0 k1 k2 k3 kq
 simp [Leaves, settle, results, Tryd.results10, go_sem, c0, c1, c2, c3, cq, hB3]
end Go.Proofs.YtdbfgfgbjheibaaDoor.Given
end

section
/- box.Decode of any bytes: what it answers is what they say; bytes of at most 1000000, the operations' table as the program lays it. -/
namespace Go.Proofs.YtdbfgfgbjheibaaDoor.Given
open Go Go.RowKit Go.Proofs.YtdbfgfgbjheibaaDoor Go.Proofs.YtdbfgfgbjheibaaDoorW.PrintWords Go.Proofs.YtdbfgfgbjheibaaDoorW.PrintLast Go.Proofs.YtdbfgfgbjheibaaDoorW.PrintMore
set_option linter.unusedVariables false
set_option linter.unusedSimpArgs false
set_option maxRecDepth 100000 in
set_option maxHeartbeats 1000000 in
/-- The closure of box.Decode where nothing was thrown. -/
theorem catch_none (p q : Addr) (w : World) :
  CallsD Tryd.prog 24 #[.pointer (some p), .pointer (some q)] .returning w fun e u' w' => e = .returned (.tuple #[]) ∧ u' = .returning ∧ w' = w := by
 have h0 : ∀ w : World, (eqGuard BinOp.neq 20 (Operand.tmp 6) (Operand.const Value.nilIface) Value.nilIface Value.nilIface).run Tryd.prog w = .ok () w := fun _ => by kernel_rfl
 have h1 : ∀ w : World, (binOp BinOp.neq 20 Value.nilIface Value.nilIface).run Tryd.prog w = .ok (.bool false) w := fun _ => by kernel_rfl
 refine callsD_of_wpS Tryd.func24 rfl fun c₀ cs hu => ?_
 apply wpS_seq
 apply wpS_region
 simp [wpOpsS, go_sem, recoverD, hu, Tryd.ntmps24, Exit.thenS]
 refine wpS_of_wp ?_
 rw [show (#[Value.pointer (some p), Value.pointer (some q)] ++ ((Array.replicate 17 undef).setIfInBounds 3 .nilIface).setIfInBounds 0 .nilIface : Array Value) = #[.pointer (some p), .pointer (some q), .nilIface, undef, undef, .nilIface, undef, undef, undef, undef, undef, undef, undef, undef, undef, undef, undef, undef, undef] from rfl]
 go_wp2
 cases c₀
 simp_all [bodyPostS, results, Tryd.results24, Exit.thenS]
set_option maxRecDepth 100000 in
set_option maxHeartbeats 2000000 in
theorem decode_ok (A0 : Option Addr) (l0 c0 : Nat) (Pu : BPure.BR → Prop) (w : World)
  (hread : ∀ W, Below w.heap.size w W → Calls Tryd.prog 25 #[.slice A0 l0 c0] W fun e w' => ∃ u : BPure.BR, e = .returned (.agg u.cells) ∧ Own u w' W.heap.size ∧ Pu u ∧ Below W.heap.size W w') :
  Calls Tryd.prog 10 #[.slice A0 l0 c0] w fun e w' => ∃ u : BPure.BR, e = .returned (.tuple #[.agg u.cells, .int .i64 0]) ∧ Own u w' w.heap.size ∧ Pu u ∧ Below w.heap.size w w' := by
 have hmf : ∀ (fn : Fn) (first cap : Array Value) (w : World), (Instr.makeFunc fn first cap).run Tryd.prog w = .ok (.func fn first cap) w := fun _ _ _ _ => rfl
 have hi : (Tryd.prog.info? 27).map (·.size) = some 4 := by kernel_rfl
 have HR := zA hread
 clear hread
 go_enter_defers Tryd.func10, Tryd.ntmps10
 go_wp2_with fail
 have hB : Below w.heap.size w ((w.alloc (.cells #[.slice none 0 0, .slice none 0 0, .slice none 0 0, .slice none 0 0] 27)).alloc (.cells #[.int .i64 0] 33)) := ((zX _ _).alloc (z5 _) _).alloc (by simp) _
 have hgp : ((w.alloc (.cells #[.slice none 0 0, .slice none 0 0, .slice none 0 0, .slice none 0 0] 27)).alloc (.cells #[.int .i64 0] 33)).heap[w.heap.size]? = some (.cells #[.slice none 0 0, .slice none 0 0, .slice none 0 0, .slice none 0 0] 27 (0, 0)) := ((zX _ (w.alloc (.cells #[.slice none 0 0, .slice none 0 0, .slice none 0 0, .slice none 0 0] 27))).alloc (z5 _) _).block w.heap.size (by simp) |>.trans (heap_alloc_new w _)
 have hgq : ((w.alloc (.cells #[.slice none 0 0, .slice none 0 0, .slice none 0 0, .slice none 0 0] 27)).alloc (.cells #[.int .i64 0] 33)).heap[w.heap.size + 1]? = some (.cells #[.int .i64 0] 33 (0, 0)) := by
  have := heap_alloc_new (w.alloc (.cells #[.slice none 0 0, .slice none 0 0, .slice none 0 0, .slice none 0 0] 27)) (.cells #[.int .i64 0] 33)
  simpa using this
 refine (HR.out _ hB).mono ?_
 rintro e w2 ⟨u, rfl, hu, hPu, hb⟩
 have HP2 := zA ((hb.block _ (blk_lt hgp)).trans hgp)
 have hq2 := (hb.block _ (blk_lt hgq)).trans hgq
 have HB2 := zA (hB.trans (hb.mono hB.size))
 have hq3 : (w2.setRow w.heap.size u.cells).heap[w.heap.size + 1]? = some (.cells #[.int .i64 0] 33 (0, 0)) := (setRow_other _ _ _ _ (by omega)).trans hq2
 have hp3 := setRow_heap _ _ _ u.cells _ _ HP2.out
 have fz := zF hq3 0
 have fc := (zC hq3 0).trans rfl
 have HQ3 := zA hq3
 have HU := zA (hu.lower (b2 := w.heap.size + 2) (by simp))
 have HPu := zA hPu
 have HP3 := zA hp3
 clear hB hgp hgq hb hq2 hu hPu hp3 hq3 HR
 dsimp only
 try simp only [Exit.then]
 try dsimp only
 go_wp2_with ((with_reducible refine gate_store (t := 27) (p := 2) (v := .tmp 6) rfl ?_); refine wpList_store_row rfl 27 (.tmp 2) (.tmp 6) rfl w.heap.size u.cells rfl rfl 27 _ HP2.out (by rw [hi]; rfl) rfl (by kernel_rfl) ?_)
 have HQ5 := zA (blk_put (cs' := #[.int .i64 0]) HQ3.out 0 (.int .i64 0) rfl)
 have HP5 := zA ((Below.heap_setCell (w2.setRow w.heap.size u.cells) ⟨w.heap.size + 1, 0, none⟩ (.int .i64 0) w.heap.size (by show w.heap.size ≠ w.heap.size + 1; omega)).trans HP3.out)
 have HB3 := below_setRow HB2.out (z5 w.heap.size) u.cells
 have HB4 := zA (zE (j := 0) (v := .int .i64 0) (g := w.heap.size + 1) HB3 (Nat.le_succ _))
 clear HQ3 HB3 HP3 fz fc HP2
 refine leaves_cons (f := 24) (args := #[.pointer (some ⟨w.heap.size, 0, none⟩), .pointer (some ⟨w.heap.size + 1, 0, none⟩)]) (by simp) (by simp [go_sem]) ?_
 refine (catch_none ⟨w.heap.size, 0, none⟩ ⟨w.heap.size + 1, 0, none⟩ _).mono ?_
 rintro e u' w'' ⟨rfl, rfl, rfl⟩
 have c0 : ((w2.setRow w.heap.size u.cells).setCell ⟨w.heap.size + 1, 0, none⟩ (.int .i64 0)).cell? ⟨w.heap.size, 0, none⟩ = some (.slice u.A0 u.C.length u.c0) := (zC HP5.out 0).trans rfl
 have c1 : ((w2.setRow w.heap.size u.cells).setCell ⟨w.heap.size + 1, 0, none⟩ (.int .i64 0)).cell? ⟨w.heap.size, 1, none⟩ = some (.slice u.A1 u.V.length u.c1) := (zC HP5.out 1).trans rfl
 have c2 : ((w2.setRow w.heap.size u.cells).setCell ⟨w.heap.size + 1, 0, none⟩ (.int .i64 0)).cell? ⟨w.heap.size, 2, none⟩ = some (.slice u.A2 u.B.length u.c2) := (zC HP5.out 2).trans rfl
 have c3 : ((w2.setRow w.heap.size u.cells).setCell ⟨w.heap.size + 1, 0, none⟩ (.int .i64 0)).cell? ⟨w.heap.size, 3, none⟩ = some (.slice u.A3 u.U.length u.c3) := (zC HP5.out 3).trans rfl
 have cq : ((w2.setRow w.heap.size u.cells).setCell ⟨w.heap.size + 1, 0, none⟩ (.int .i64 0)).cell? ⟨w.heap.size + 1, 0, none⟩ = some (.int .i64 0) := (zC HQ5.out 0).trans rfl
 have HU5 : Own u ((w2.setRow w.heap.size u.cells).setCell ⟨w.heap.size + 1, 0, none⟩ (.int .i64 0)) w.heap.size := (HU.out.step (fun k hk => (Below.heap_setCell _ _ _ k (by show k ≠ w.heap.size + 1; omega)).trans (setRow_other _ _ _ _ (by omega)))).lower (by omega)
 generalize (w2.setRow w.heap.size u.cells).setCell ⟨w.heap.size + 1, 0, none⟩ (.int .i64 0) = w5 at c0 c1 c2 c3 cq HB4 HU5 ⊢
 simp [Leaves, settle, results, Tryd.results10, go_sem, c0, c1, c2, c3, cq]
 exact ⟨u, rfl, HU5, HPu.out, HB4.out⟩
set_option maxHeartbeats 1000000 in
set_option maxRecDepth 100000 in
theorem read_short (A0 : Option Addr) (c0 : Nat) (l : List Int) (w : World) (h8 : l.length < 8) :
  Calls Tryd.prog 25 #[.slice A0 l.length c0] w fun e w' => e = .panicked [{ v := wrongV 1, recovered := false }] ∧ Below w.heap.size w w' := by
 have hB : Below w.heap.size w (w.alloc (.cells #[.slice none 0 0, .slice none 0 0, .slice none 0 0, .slice none 0 0] 27)) := (zX _ _).alloc (z5 _) _
 have g1 : ¬ ((l.length : Int) > 1048576) := by omega
 have g2 : (l.length : Int) < 8 := by omega
 have HM := zA (fun W => must_bad 1 (by decide) W)
 have HB := zA hB
 clear hB
 go_enter Tryd.func25, Tryd.ntmps25
 go_wp2_with fail
 refine (HM.out _).mono ?_
 rintro e w2 ⟨rfl, rfl⟩
 exact ⟨rfl, rfl, HB.out⟩
theorem readC4_no {c : List Int} {C : List SC} {V : List SV} {B : List SB} {a : Int} (h : ¬ (readC4 c C V B a).1 = 0) : (readC4 c C V B a).2 = noP := by
 unfold readC4 at h ⊢
 split
 ·rfl
 ·split
  ·rfl
  ·split
   ·rfl
   ·rw [if_neg (by assumption), if_neg (by assumption), if_neg (by assumption)] at h
    exact absurd rfl h
theorem readC3_no {c : List Int} {C : List SC} {V : List SV} {a : Int} (h : ¬ (readC3 c C V a).1 = 0) : (readC3 c C V a).2 = noP := by
 unfold readC3 at h ⊢
 split
 ·rfl
 ·split
  ·rfl
  ·rw [if_neg (by assumption), if_neg (by assumption)] at h
   exact readC4_no h
theorem readC2_no {c : List Int} {C : List SC} {a : Int} (h : ¬ (readC2 c C a).1 = 0) : (readC2 c C a).2 = noP := by
 unfold readC2 at h ⊢
 split
 ·rfl
 ·split
  ·rfl
  ·rw [if_neg (by assumption), if_neg (by assumption)] at h
   exact readC3_no h
theorem readC1_no {c : List Int} {a : Int} (h : ¬ (readC1 c a).1 = 0) : (readC1 c a).2 = noP := by
 unfold readC1 at h ⊢
 split
 ·rfl
 ·split
  ·rfl
  ·rw [if_neg (by assumption), if_neg (by assumption)] at h
   exact readC2_no h
/-- What a decoder tells of bytes. -/
def DPost (r : Int × PD) (w : World) (e : Ending) (w' : World) : Prop := ∃ u : BPure.BR, e = .returned (.tuple #[.agg u.cells, .int .i64 r.1]) ∧ Own u w' w.heap.size ∧ (u.C, u.V, u.B, u.U) = r.2 ∧ Below w.heap.size w w'
theorem DPost.no {r : Int × PD} {w : World} {e : Ending} {w' : World} (h : e = .returned (.tuple #[.agg #[.slice none 0 0, .slice none 0 0, .slice none 0 0, .slice none 0 0], .int .i64 r.1]) ∧ Below w.heap.size w w') (hr : r.2 = noP) : DPost r w e w' :=
 ⟨⟨none, 0, [], none, 0, [], none, 0, [], none, 0, []⟩, h.1, ⟨Kd.R_nil _ _ _ _ _, Kd.R_nil _ _ _ _ _, Kd.R_nil _ _ _ _ _, Kd.R_nil _ _ _ _ _⟩, hr.symm, h.2⟩
theorem decode_calls2 (A0 : Option Addr) (c0 : Nat) (l : List Int) (w : World) (h : Kd.C (Kd.int .u8) w A0 l.length l) (hc : l.length ≤ c0) (hm : l.length ≤ 1000000) (hb : ∀ x ∈ l, 0 ≤ x ∧ x < 256) (hL : LaidOps w) :
  Calls Tryd.prog 10 #[.slice A0 l.length c0] w fun e w' => DPost (readF l) w e w' := by
 unfold readF
 rw [if_neg (by omega)]
 by_cases h8 : l.length < 8
 ·rw [if_pos h8]
  exact (decode_wrong A0 l.length c0 1 w (fun W hW => read_short A0 c0 l W h8)).mono fun e w' hh => DPost.no hh rfl
 rw [if_neg h8]
 by_cases hg : magicB l = false
 ·rw [if_pos hg]
  exact (decode_wrong A0 l.length c0 2 w (fun W hW => read_magic A0 c0 l W (zD h hW) hc (by omega) (by omega) hg)).mono fun e w' hh => DPost.no hh rfl
 rw [if_neg hg]
 have hg : magicB l = true := by simpa using hg
 by_cases hs : ¬ (numR (l.drop (l.length - 4)) 0 false 4).1 = 4294967295 - overF 4294967295 (l.take (l.length - 4))
 ·rw [if_pos hs]
  exact (decode_wrong A0 l.length c0 3 w (fun W hW => read_sum A0 c0 l W (zD h hW) hc (by omega) (by omega) hb hg hs)).mono fun e w' hh => DPost.no hh rfl
 rw [if_neg hs]
 have hs := Classical.not_not.1 hs
 have hw : ∀ W, Below w.heap.size w W → _ := fun W hW => read_whole A0 c0 l W (zD h hW) hc (by omega) hm hb hg hs (hL.below hW)
 by_cases h0 : (readC1 (bodyOf l) 0).1 = 0
 ·refine (decode_ok A0 l.length c0 (fun u => (u.C, u.V, u.B, u.U) = (readC1 (bodyOf l) 0).2) w (fun W hW => (hw W hW).mono ?_)).mono ?_
  ·rintro e w' (⟨_, ⟨u, he, ho, hp⟩, hB⟩ | ⟨hn, _⟩)
   ·exact ⟨u, he, ho, hp, hB⟩
   ·exact absurd h0 hn
  ·rintro e w' ⟨u, he, ho, hp, hB⟩
   exact ⟨u, by rw [h0]; exact he, ho, hp, hB⟩
 ·refine (decode_wrong A0 l.length c0 (readC1 (bodyOf l) 0).1 w (fun W hW => (hw W hW).mono ?_)).mono fun e w' hh => DPost.no hh (readC1_no h0)
  rintro e w' (⟨hn, _⟩ | ⟨_, he, hB⟩)
  ·exact absurd hn h0
  ·exact ⟨he, hB⟩
end Go.Proofs.YtdbfgfgbjheibaaDoor.Given
end

section
/- The sum of bytes as a shift register: a step by the table is eight steps by bits, and no two states become one; for states below 2^32. -/
namespace Go.Proofs.YtdbfgfgbjheibaaDoor
open Go
def r1 (n : Nat) : Nat := if n % 2 = 1 then (n / 2) ^^^ 3988292384 else n / 2
def r4 (n : Nat) : Nat := r1 (r1 (r1 (r1 n)))
theorem r1_xor (a b : Nat) : r1 (a ^^^ b) = r1 a ^^^ r1 b := by
 unfold r1
 rw [Nat.xor_div_two]
 have h := Nat.xor_mod_two_eq_one (a := a) (b := b)
 by_cases ha : a % 2 = 1 <;> by_cases hb : b % 2 = 1 <;> simp only [ha, hb] at h ⊢ <;> simp at h <;> simp [h]
 ·rw [Nat.xor_assoc, Nat.xor_comm 3988292384, Nat.xor_assoc, Nat.xor_self, Nat.xor_zero]
 ·rw [Nat.xor_assoc, Nat.xor_comm (b / 2), Nat.xor_assoc]
 ·rw [Nat.xor_assoc]
theorem r4_xor (a b : Nat) : r4 (a ^^^ b) = r4 a ^^^ r4 b := by unfold r4; simp only [r1_xor]
theorem r1_even (n : Nat) : r1 (2 * n) = n := by unfold r1; rw [if_neg (by omega)]; omega
theorem r4_even (n : Nat) : r4 (16 * n) = n := by
 unfold r4
 rw [show 16 * n = 2 * (2 * (2 * (2 * n))) by omega, r1_even, r1_even, r1_even, r1_even]
theorem r1_lt (n : Nat) (h : n < 4294967296) : r1 n < 4294967296 := by
 unfold r1
 split
 ·exact Nat.xor_lt_two_pow (n := 32) (by omega) (by decide)
 ·omega
theorem r4_lt (n : Nat) (h : n < 4294967296) : r4 n < 4294967296 := r1_lt _ (r1_lt _ (r1_lt _ (r1_lt _ h)))
theorem tab_r4 (r : Nat) (h : r < 16) : tab.getD r 0 = (r4 r : Int) := by
 rcases (by omega : r = 0 ∨ r = 1 ∨ r = 2 ∨ r = 3 ∨ r = 4 ∨ r = 5 ∨ r = 6 ∨ r = 7 ∨ r = 8 ∨ r = 9 ∨ r = 10 ∨ r = 11 ∨ r = 12 ∨ r = 13 ∨ r = 14 ∨ r = 15) with rfl | rfl | rfl | rfl | rfl | rfl | rfl | rfl | rfl | rfl | rfl | rfl | rfl | rfl | rfl | rfl <;> decide +kernel
theorem parts16 (s : Nat) : s = (16 * (s / 16)) ^^^ (s % 16) := by
 apply Nat.eq_of_testBit_eq
 intro i
 rw [Nat.testBit_xor, show 16 * (s / 16) = 2 ^ 4 * (s / 2 ^ 4) from rfl, show s % 16 = s % 2 ^ 4 from rfl, Nat.testBit_mod_two_pow, Nat.testBit_two_pow_mul, Nat.testBit_div_two_pow]
 by_cases h : i < 4
 ·simp [h, show ¬ 4 ≤ i by omega]
 ·simp [h, show 4 ≤ i by omega, show i - 4 + 4 = i by omega]
theorem halfStep_nat (s : Nat) (h : s < 4294967296) : halfStep (s : Int) = (r4 s : Int) := by
 unfold halfStep
 have e1 : Go.bits .and .u32 (s : Int) 15 = ((s % 16 : Nat) : Int) := by
  rw [u32_and _ _ (by omega) (by omega) (by decide) (by decide)]
  have : (15 : Int).toNat = 2 ^ 4 - 1 := rfl
  rw [this, Int.toNat_natCast, Nat.and_two_pow_sub_one_eq_mod]
 rw [e1, Int.toNat_natCast, tab_r4 _ (Nat.mod_lt _ (by decide))]
 have e2 : (s : Int) / 16 = ((s / 16 : Nat) : Int) := by omega
 rw [e2, u32_xor_nat _ _ (by omega) (r4_lt _ (by omega))]
 congr 1
 have := parts16 s
 conv => rhs; rw [this]
 rw [r4_xor, r4_even]
theorem stepF_nat (s c : Nat) (h : s < 4294967296) (hc : c < 4294967296) : stepF (s : Int) (c : Int) = (r4 (r4 (s ^^^ c)) : Int) := by
 unfold stepF
 have hx : s ^^^ c < 4294967296 := Nat.xor_lt_two_pow (n := 32) (by omega) (by omega)
 rw [u32_xor_nat _ _ h hc, halfStep_nat _ hx, halfStep_nat _ (r4_lt _ hx)]
end Go.Proofs.YtdbfgfgbjheibaaDoor
end

section
/- The document's sum of bytes tells what the program's does, over the texts of the container. -/
namespace Go.Proofs.YtdbfgfgbjheibaaDoor.BPure
open Go Go.RowKit Go.Proofs.YtdbfgfgbjheibaaDoor Go.Proofs.YtdbfgfgbjheibaaDoor.PBx Go.Proofs.YtdbfgfgbjheibaaDoor.Given Go.Proofs.YtdbfgfgbjheibaaDoorW.PrintWords Go.Proofs.YtdbfgfgbjheibaaDoorW.PrintLast Go.Proofs.YtdbfgfgbjheibaaDoorW.PrintMore
set_option linter.unusedVariables false
set_option linter.unusedSimpArgs false
def rs : Nat → Nat → Nat
 | 0, s => s
 | n + 1, s => rs n (r1 s)
theorem ref_bits : ∀ (d k : Nat) (s : Nat) (j : Nat), s < 4294967296 → j + d = 8 → d < k → r02_Next.l0 k (s : Int) (j : Int) = some (rs d s : Int)
 | 0, k, s, j, hs, hj, hk => by
  obtain ⟨k, rfl⟩ : ∃ m, k = m + 1 := ⟨k - 1, by omega⟩
  simp only [r02_Next.l0]
  rw [if_neg (by omega)]
  rfl
 | d + 1, k, s, j, hs, hj, hk => by
  obtain ⟨k, rfl⟩ : ∃ m, k = m + 1 := ⟨k - 1, by omega⟩
  simp only [r02_Next.l0]
  rw [if_pos (by omega)]
  have e1 : Int.tmod (s : Int) 2 = ((s % 2 : Nat) : Int) := by rw [Int.tmod_eq_emod_of_nonneg (by omega)]; omega
  have e2 : Int.tdiv (s : Int) 2 % 4294967296 = ((s / 2 : Nat) : Int) := by rw [Int.tdiv_eq_ediv_of_nonneg (by omega)]; omega
  have e3 : wrap64 ((j : Int) + 1) = ((j + 1 : Nat) : Int) := by unfold wrap64; omega
  have ih := ref_bits d k (r1 s) (j + 1) (r1_lt s hs) (by omega) (by omega)
  rw [e1, e2, e3]
  unfold rs
  rw [← ih]
  by_cases h : s % 2 = 1
  ·rw [if_pos (by omega), show (3988292384 : Int) = ((3988292384 : Nat) : Int) from rfl, u32_xor_nat _ _ (by omega) (by decide)]
   congr 2
   unfold r1
   rw [if_pos h]
  ·rw [if_neg (by omega)]
   congr 2
   unfold r1
   rw [if_neg h]
theorem ref_next (s c : Int) (hs : 0 ≤ s ∧ s < 4294967296) (hc : 0 ≤ c ∧ c < 256) (k : Nat) (hk : 9 ≤ k) : r02_Next.f k s c = some (stepF s c) := by
 obtain ⟨s, rfl⟩ := Int.eq_ofNat_of_zero_le hs.1
 obtain ⟨c, rfl⟩ := Int.eq_ofNat_of_zero_le hc.1
 unfold r02_Next.f
 rw [show (c : Int) % 4294967296 = (c : Int) by omega, u32_xor_nat _ _ (by omega) (by omega), stepF_nat _ _ (by omega) (by omega)]
 exact ref_bits 8 k _ 0 (Nat.xor_lt_two_pow (n := 32) (by omega) (by omega)) rfl (by omega)
theorem ref_over (l : List Int) (hl : ∀ a ∈ l, 0 ≤ a ∧ a < 256) (hb : l.length ≤ 1000000) : ∀ (d k j : Nat) (s : Int), 0 ≤ s ∧ s < 4294967296 → j + d = l.length → d + 9 < k → r02_Over.l0 k s l (j : Int) = some (overF s (l.drop j))
 | 0, k, j, s, hs, hj, hk => by
  obtain ⟨k, rfl⟩ : ∃ m, k = m + 1 := ⟨k - 1, by omega⟩
  simp only [r02_Over.l0]
  rw [if_neg (by omega), List.drop_eq_nil_of_le (by omega)]
  rfl
 | d + 1, k, j, s, hs, hj, hk => by
  obtain ⟨k, rfl⟩ : ∃ m, k = m + 1 := ⟨k - 1, by omega⟩
  have hlt : j < l.length := by omega
  have hrd : rd l (j : Int) = l[j] := by simp [rd, List.getD_eq_getElem?_getD, hlt]
  have e3 : wrap64 ((j : Int) + 1) = ((j + 1 : Nat) : Int) := by unfold wrap64; omega
  simp only [r02_Over.l0]
  rw [if_pos (by omega), if_pos (by omega), hrd, ref_next s l[j] hs (hl _ (List.getElem_mem hlt)) k (by omega)]
  simp only [zP]
  rw [e3, ref_over l hl hb d k (j + 1) _ (stepF_lim s _) (by omega) (by omega), List.drop_eq_getElem_cons hlt]
  rfl
theorem ref_of (l : List Int) (hl : ∀ a ∈ l, 0 ≤ a ∧ a < 256) (hb : l.length ≤ 1000000) (k : Nat) (hk : l.length + 9 < k) : r02_Of.f k l = some (4294967295 - overF 4294967295 l) := by
 unfold r02_Of.f r02_Over.f
 have := ref_over l hl hb l.length k 0 4294967295 (by decide) (by omega) hk
 rw [List.drop_zero] at this
 rw [show (0 : Int) = ((0 : Nat) : Int) from rfl, this, zP]
 have h := overF_lim 4294967295 (by decide) l
 congr 1
 omega
end Go.Proofs.YtdbfgfgbjheibaaDoor.BPure
end

section
/- The document's Decode: for any bytes it answers what they say; bytes of at most 90000. -/
namespace Go.Proofs.YtdbfgfgbjheibaaDoor.Given
open Go Go.RowKit Go.Proofs.YtdbfgfgbjheibaaDoor Go.Proofs.YtdbfgfgbjheibaaDoorW.PrintWords Go.Proofs.YtdbfgfgbjheibaaDoorW.PrintLast Go.Proofs.YtdbfgfgbjheibaaDoorW.PrintMore
set_option linter.unusedVariables false
set_option linter.unusedSimpArgs false
theorem DPost.nil {n : Int} {w w' : World} (hB : Below w.heap.size w w') : DPost (n, noP) w (.returned (.tuple #[.agg #[.slice none 0 0, .slice none 0 0, .slice none 0 0, .slice none 0 0], .int .i64 n])) w' := DPost.no ⟨rfl, hB⟩ rfl
theorem rof_calls (A : Option Addr) (c : Nat) (T : List Int) (W : World) (h : Kd.C (Kd.int .u8) W A T.length T) (hc : T.length ≤ c) (hb : ∀ x ∈ T, 0 ≤ x ∧ x < 256) (hl : T.length ≤ 90000) : Calls Tryd.prog 36 #[.slice A T.length c] W fun e w' => e = .returned (.int .u32 (4294967295 - overF 4294967295 T)) ∧ Below W.heap.size W w' :=
 (PBx.r02_Of.calls (T.length + 10) A c T _ W h hc (BPure.ref_of T hb (by omega) _ (by omega))).mono (by rintro e w' ⟨he, m, rfl⟩; exact ⟨he, zN (zX _ _) m⟩)
set_option maxHeartbeats 1000000 in
set_option maxRecDepth 100000 in
theorem rdec_short (A0 : Option Addr) (c0 : Nat) (l : List Int) (w : World) (h8 : l.length < 8) :
  Calls Tryd.prog 15 #[.slice A0 l.length c0] w fun e w' => DPost (1, noP) w e w' := by
 have hip : (Tryd.prog.info? 27).map (·.size) = some 4 := by kernel_rfl
 have HZ := zA (heap_alloc_new w (.cells #[.slice none 0 0, .slice none 0 0, .slice none 0 0, .slice none 0 0] 27))
 have HB := zA (show Below w.heap.size w (w.alloc (.cells #[.slice none 0 0, .slice none 0 0, .slice none 0 0, .slice none 0 0] 27)) from (zX _ _).alloc (z5 _) _)
 have g1 : ¬ ((l.length : Int) > 1048576) := by omega
 have g2 : (l.length : Int) < 8 := by omega
 go_enter Tryd.func15, Tryd.ntmps15
 go_wp2_with ((with_reducible refine gate_store (t := 27) (p := 2) (v := .tmp 17) rfl ?_); refine wpList_store_row rfl 27 (.tmp 2) (.tmp 17) rfl w.heap.size #[.slice none 0 0, .slice none 0 0, .slice none 0 0, .slice none 0 0] rfl rfl 27 _ HZ.out (by rw [hip]; rfl) rfl (by kernel_rfl) ?_)
 refine bodyPost_ret (results_ct rfl _ _ w.heap.size 27 #[.slice none 0 0, .slice none 0 0, .slice none 0 0, .slice none 0 0] (0, 0) _ rfl (setRow_heap _ _ _ _ _ _ HZ.out) Tryd.underlying27 rfl hip) rfl ?_
 exact DPost.nil (below_setRow HB.out (z5 _) _)
set_option maxHeartbeats 1000000 in
set_option maxRecDepth 100000 in
theorem rdec_magic (A0 : Option Addr) (c0 : Nat) (l : List Int) (w : World) (h : Kd.C (Kd.int .u8) w A0 l.length l) (hc : l.length ≤ c0) (h8 : 8 ≤ l.length) (hm : l.length ≤ 90000) (hb : ∀ x ∈ l, 0 ≤ x ∧ x < 256) (heq : magicB l = false) :
  Calls Tryd.prog 15 #[.slice A0 l.length c0] w fun e w' => DPost (2, noP) w e w' := by
 have hip : (Tryd.prog.info? 27).map (·.size) = some 4 := by kernel_rfl
 have hB : Below w.heap.size w (w.alloc (.cells #[.slice none 0 0, .slice none 0 0, .slice none 0 0, .slice none 0 0] 27)) := (zX _ _).alloc (z5 _) _
 have hz0 := heap_alloc_new w (.cells #[.slice none 0 0, .slice none 0 0, .slice none 0 0, .slice none 0 0] 27)
 unfold magicB at heq
 have g1 : ¬ ((l.length : Int) > 1048576) := by omega
 have g2 : ¬ ((l.length : Int) < 8) := by omega
 have HB := zA hB
 have HH := zA (zD h hB)
 have h4 := Kd.C_take (m := 4) (zD h hB) (by omega)
 have y4 : (l.take 4).length = 4 := by rw [zt]; omega
 obtain ⟨y, hy⟩ : ∃ y, y = l.take 4 := ⟨_, rfl⟩
 rw [← hy] at h4 heq y4
 have hcv := Kd.C_string (P := Tryd.prog) (A := A0) (c := c0) Tryd.underlying28 Tryd.underlying5 Tryd.underlying9 (y4 ▸ h4)
 first | rw [y4] at hcv | skip
 have HZ := zA hz0
 clear h hB h4 hy y4 hz0
 go_enter Tryd.func15, Tryd.ntmps15
 go_wp2_with ((with_reducible refine gate_store (t := 27) (p := 2) (v := .tmp 22) rfl ?_); refine wpList_store_row rfl 27 (.tmp 2) (.tmp 22) rfl w.heap.size #[.slice none 0 0, .slice none 0 0, .slice none 0 0, .slice none 0 0] rfl rfl 27 _ HZ.out (by rw [hip]; rfl) rfl (by kernel_rfl) ?_)
 refine bodyPost_ret (results_ct rfl _ _ w.heap.size 27 #[.slice none 0 0, .slice none 0 0, .slice none 0 0, .slice none 0 0] (0, 0) _ rfl (setRow_heap _ _ _ _ _ _ HZ.out) Tryd.underlying27 rfl hip) rfl ?_
 exact DPost.nil (below_setRow HB.out (z5 _) _)
set_option maxHeartbeats 2000000 in
set_option maxRecDepth 100000 in
theorem rdec_sum (A0 : Option Addr) (c0 : Nat) (l : List Int) (w : World) (h : Kd.C (Kd.int .u8) w A0 l.length l) (hc : l.length ≤ c0) (h8 : 8 ≤ l.length) (hm : l.length ≤ 90000) (hb : ∀ x ∈ l, 0 ≤ x ∧ x < 256) (heq : magicB l = true)
  (hne : ¬ (numR (l.drop (l.length - 4)) 0 false 4).1 = 4294967295 - overF 4294967295 (l.take (l.length - 4))) :
  Calls Tryd.prog 15 #[.slice A0 l.length c0] w fun e w' => DPost (3, noP) w e w' := by
 have hip : (Tryd.prog.info? 27).map (·.size) = some 4 := by kernel_rfl
 have hB : Below w.heap.size w (w.alloc (.cells #[.slice none 0 0, .slice none 0 0, .slice none 0 0, .slice none 0 0] 27)) := (zX _ _).alloc (z5 _) _
 have hz0 := heap_alloc_new w (.cells #[.slice none 0 0, .slice none 0 0, .slice none 0 0, .slice none 0 0] 27)
 unfold magicB at heq
 have g1 : ¬ ((l.length : Int) > 1048576) := by omega
 have g2 : ¬ ((l.length : Int) < 8) := by omega
 have HB := zA hB
 have HH := zA h
 have h4 := Kd.C_take (m := 4) (zD h hB) (by omega)
 have y4 : (l.take 4).length = 4 := by rw [zt]; omega
 obtain ⟨y, hy⟩ : ∃ y, y = l.take 4 := ⟨_, rfl⟩
 rw [← hy] at h4 heq y4
 have hcv := Kd.C_string (P := Tryd.prog) (A := A0) (c := c0) Tryd.underlying28 Tryd.underlying5 Tryd.underlying9 (y4 ▸ h4)
 first | rw [y4] at hcv | skip
 have hz : (Tryd.prog.info? 5).map (·.size) = some 1 := by kernel_rfl
 obtain ⟨i0, hi0, hsz0⟩ := Option.map_eq_some_iff.1 hz
 have hs1 := cut_from (P := Tryd.prog) 28 5 .i64 Tryd.underlying28 hi0 1 hsz0 A0 l.length c0 ((l.length : Int) - 4) (by omega) (by omega)
 have hs2 := cut_to (P := Tryd.prog) 28 5 .i64 Tryd.underlying28 hi0 A0 l.length c0 ((l.length : Int) - 4) (by omega) (by omega) hc
 have e1 : ((l.length : Int) - 4).toNat = l.length - 4 := by omega
 have hC1 := Kd.C_drop (m := l.length - 4) (zD h hB) (by omega) hc
 have hC2 := Kd.C_take (m := l.length - 4) (zD h hB) (by omega)
 have e2 : l.length - (l.length - 4) = (l.drop (l.length - 4)).length := by rw [zd]
 have e3 : l.length - 4 = (l.take (l.length - 4)).length := by rw [zt]; omega
 rw [e1] at hs1 hs2
 rw [show (Kd.int .u8).sz = 1 from rfl] at hC1
 have hd1 : (l.drop (l.length - 4)).length = 4 := by rw [zd]; omega
 have hb1 : okB (l.drop (l.length - 4)) = true := by unfold okB; simp only [Bool.and_eq_true, List.all_eq_true, decide_eq_true_eq]; exact ⟨fun x hx => hb x (List.mem_of_mem_drop hx), by omega⟩
 have hbT : ∀ x ∈ l.take (l.length - 4), 0 ≤ x ∧ x < 256 := fun x hx => hb x (List.mem_of_mem_take hx)
 have hlT : (l.take (l.length - 4)).length ≤ 1000000000 := by rw [zt]; omega
 have hk1 : (l.drop (l.length - 4)).length ≤ c0 - (l.length - 4) := by rw [zd]; omega
 have hk2 : (l.take (l.length - 4)).length ≤ c0 := by rw [← e3]; omega
 rw [e2] at hs1
 generalize (if c0 = l.length - 4 then A0 else Option.map (fun x => x.add ((l.length - 4) * 1)) A0) = A1 at hs1 hC1
 generalize c0 - (l.length - 4) = c1 at hs1 hk1
 rw [e3] at hs2
 generalize hD : l.drop (l.length - 4) = D at *
 generalize hT : l.take (l.length - 4) = T at *
 have hWT : Below (w.alloc (.cells #[.slice none 0 0, .slice none 0 0, .slice none 0 0, .slice none 0 0] 27)).heap.size (w.alloc (.cells #[.slice none 0 0, .slice none 0 0, .slice none 0 0, .slice none 0 0] 27)) ((w.alloc (.cells #[.slice none 0 0, .slice none 0 0, .slice none 0 0, .slice none 0 0] 27)).alloc (.cells #[.slice A1 D.length c1, .int .i64 0, .bool false] 71)) := (zX _ _).alloc (z5 _) _
 have hRT : RJ ((w.alloc (.cells #[.slice none 0 0, .slice none 0 0, .slice none 0 0, .slice none 0 0] 27)).alloc (.cells #[.slice A1 D.length c1, .int .i64 0, .bool false] 71)) (w.alloc (.cells #[.slice none 0 0, .slice none 0 0, .slice none 0 0, .slice none 0 0] 27)).heap.size D 0 false := RJ.of (rd_new (w0 := (w.alloc (.cells #[.slice none 0 0, .slice none 0 0, .slice none 0 0, .slice none 0 0] 27))) (heap_alloc_new _ _) (z5 _) hC1 hk1) hWT
 have PN := zA (fun W (hW : Below ((w.alloc (.cells #[.slice none 0 0, .slice none 0 0, .slice none 0 0, .slice none 0 0] 27)).alloc (.cells #[.slice A1 D.length c1, .int .i64 0, .bool false] 71)).heap.size ((w.alloc (.cells #[.slice none 0 0, .slice none 0 0, .slice none 0 0, .slice none 0 0] 27)).alloc (.cells #[.slice A1 D.length c1, .int .i64 0, .bool false] 71)) W) => rnum_j (w.alloc (.cells #[.slice none 0 0, .slice none 0 0, .slice none 0 0, .slice none 0 0] 27)).heap.size W D 0 false 4 (hRT.below hW) hb1)
 have PT := zA (fun W (hW : Below (w.alloc (.cells #[.slice none 0 0, .slice none 0 0, .slice none 0 0, .slice none 0 0] 27)).heap.size (w.alloc (.cells #[.slice none 0 0, .slice none 0 0, .slice none 0 0, .slice none 0 0] 27)) W) => rof_calls A0 c0 T W (zD hC2 hW) hk2 hbT (by omega))
 have HWT := zA hWT
 have HZ0 := zA hz0
 have e7 : (w.alloc (.cells #[.slice none 0 0, .slice none 0 0, .slice none 0 0, .slice none 0 0] 27)).heap.size = w.heap.size + 1 := by simp
 clear h hB h4 y4 hC1 hC2 e1 e2 e3 hz hi0 hsz0 hb1 hk1 hk2 hb hd1 hbT hlT hWT hRT hz0
 clear hD hT hy
 go_enter Tryd.func15, Tryd.ntmps15
 rw [e7] at PN
 have hs2w : ∀ W : World, (Instr.slice 28 (.slice A0 l.length c0) none (some (.int .i64 (IntKind.i64.wrap ((l.length : Int) - 4)))) none).run Tryd.prog W = .ok (.slice A0 T.length c0) W := fun W => by rw [i64_w, show wrap64 ((l.length : Int) - 4) = (l.length : Int) - 4 by unfold wrap64; omega]; exact hs2 W
 go_wp2_with fail
 go_region_with (first
  | (go_at_call 41; refine (PN.out _ (by first | exact (zX _ _) | exact (below_drew1 (zX _ _)))).mono ?_; rintro e w9 ⟨rfl, hI9, hk9, hb9⟩)
  | (go_at_call 36; refine (PT.out _ (by first | exact HWT.out.trans (hb9.mono (Nat.le_of_eq e7)) | exact (below_drew1 HWT.out).trans (hb9.mono (Nat.le_of_eq e7)))).mono ?_; rintro e w10 ⟨rfl, hb10⟩))
 simp only [Act.put, zY, List.set_cons_zero, z2]
 have hAB := (below_drew1 HWT.out).trans (hb9.mono (Nat.le_of_eq e7))
 have hABC := hAB.trans (hb10.mono hAB.size)
 have HBW := zA (HB.out.trans (hABC.mono HB.out.size))
 have HZ := zA ((hABC.block w.heap.size (by rw [e7]; omega)).trans HZ0.out)
 have hbne : ((numR D 0 false 4).1 != IntKind.i64.wrap (4294967295 - overF 4294967295 T)) = true := by
  have hlim := overF_lim 4294967295 (by decide) T
  rw [i64_w, show wrap64 (4294967295 - overF 4294967295 T) = 4294967295 - overF 4294967295 T by unfold wrap64; omega]
  simpa using hne
 have hbne2 : ¬ (numR D 0 false 4).1 = IntKind.i64.wrap (4294967295 - overF 4294967295 T) := by simpa using hbne
 clear hAB hABC hb9 hb10 hk9 hI9 PN PT HWT HZ0
 go_wp2_with ((with_reducible refine gate_store (t := 27) (p := 2) (v := .tmp 40) rfl ?_); refine wpList_store_row rfl 27 (.tmp 2) (.tmp 40) rfl w.heap.size #[.slice none 0 0, .slice none 0 0, .slice none 0 0, .slice none 0 0] rfl rfl 27 _ HZ.out (by rw [hip]; rfl) rfl (by kernel_rfl) ?_)
 refine bodyPost_ret (results_ct rfl _ _ w.heap.size 27 #[.slice none 0 0, .slice none 0 0, .slice none 0 0, .slice none 0 0] (0, 0) _ rfl (setRow_heap _ _ _ _ _ _ HZ.out) Tryd.underlying27 rfl hip) rfl ?_
 exact DPost.nil (below_setRow HBW.out (z5 _) _)
set_option maxHeartbeats 8000000 in
set_option maxRecDepth 100000 in
theorem rdec_whole (A0 : Option Addr) (c0 : Nat) (l : List Int) (w : World) (h : Kd.C (Kd.int .u8) w A0 l.length l) (hc : l.length ≤ c0) (h8 : 8 ≤ l.length) (hm : l.length ≤ 90000) (hb : ∀ x ∈ l, 0 ≤ x ∧ x < 256) (heq : magicB l = true)
  (hsum : (numR (l.drop (l.length - 4)) 0 false 4).1 = 4294967295 - overF 4294967295 (l.take (l.length - 4))) :
  Calls Tryd.prog 15 #[.slice A0 l.length c0] w fun e w' => DPost (readC1 (bodyOf l) 0) w e w' := by
 have hip : (Tryd.prog.info? 27).map (·.size) = some 4 := by kernel_rfl
 have hB : Below w.heap.size w (w.alloc (.cells #[.slice none 0 0, .slice none 0 0, .slice none 0 0, .slice none 0 0] 27)) := (zX _ _).alloc (z5 _) _
 have hz0 := heap_alloc_new w (.cells #[.slice none 0 0, .slice none 0 0, .slice none 0 0, .slice none 0 0] 27)
 unfold magicB at heq
 have g1 : ¬ ((l.length : Int) > 1048576) := by omega
 have g2 : ¬ ((l.length : Int) < 8) := by omega
 have HB := zA hB
 have HH := zA h
 have h4 := Kd.C_take (m := 4) (zD h hB) (by omega)
 have y4 : (l.take 4).length = 4 := by rw [zt]; omega
 obtain ⟨y, hy⟩ : ∃ y, y = l.take 4 := ⟨_, rfl⟩
 rw [← hy] at h4 heq y4
 have hcv := Kd.C_string (P := Tryd.prog) (A := A0) (c := c0) Tryd.underlying28 Tryd.underlying5 Tryd.underlying9 (y4 ▸ h4)
 first | rw [y4] at hcv | skip
 have hz : (Tryd.prog.info? 5).map (·.size) = some 1 := by kernel_rfl
 obtain ⟨i0, hi0, hsz0⟩ := Option.map_eq_some_iff.1 hz
 have hs1 := cut_from (P := Tryd.prog) 28 5 .i64 Tryd.underlying28 hi0 1 hsz0 A0 l.length c0 ((l.length : Int) - 4) (by omega) (by omega)
 have hs2 := cut_to (P := Tryd.prog) 28 5 .i64 Tryd.underlying28 hi0 A0 l.length c0 ((l.length : Int) - 4) (by omega) (by omega) hc
 have e1 : ((l.length : Int) - 4).toNat = l.length - 4 := by omega
 have hC1 := Kd.C_drop (m := l.length - 4) (zD h hB) (by omega) hc
 have hC2 := Kd.C_take (m := l.length - 4) (zD h hB) (by omega)
 have e2 : l.length - (l.length - 4) = (l.drop (l.length - 4)).length := by rw [zd]
 have e3 : l.length - 4 = (l.take (l.length - 4)).length := by rw [zt]; omega
 rw [e1] at hs1 hs2
 rw [show (Kd.int .u8).sz = 1 from rfl] at hC1
 have hd1 : (l.drop (l.length - 4)).length = 4 := by rw [zd]; omega
 have hb1 : okB (l.drop (l.length - 4)) = true := by unfold okB; simp only [Bool.and_eq_true, List.all_eq_true, decide_eq_true_eq]; exact ⟨fun x hx => hb x (List.mem_of_mem_drop hx), by omega⟩
 have hbT : ∀ x ∈ l.take (l.length - 4), 0 ≤ x ∧ x < 256 := fun x hx => hb x (List.mem_of_mem_take hx)
 have hlT : (l.take (l.length - 4)).length ≤ 1000000000 := by rw [zt]; omega
 have hk1 : (l.drop (l.length - 4)).length ≤ c0 - (l.length - 4) := by rw [zd]; omega
 have hk2 : (l.take (l.length - 4)).length ≤ c0 := by rw [← e3]; omega
 have hs3 := Go.Proofs.YtdbfgfgbjheibaaDoorW.PrintWords.cut_mid (P := Tryd.prog) 28 5 .i64 .i64 Tryd.underlying28 hi0 1 hsz0 A0 l.length c0 4 ((l.length : Int) - 4) (by omega) (by omega) (by omega) hc
 have hC3 := Kd.C_mid (lo := 4) (hi := l.length - 4) h (by omega) (by omega) hc
 have e5 : l.length - 4 - 4 = (bodyOf l).length := by unfold bodyOf; rw [zd, zt]; omega
 have hb3 : okB (bodyOf l) = true := Pure.okB_of _ (by omega) (fun x hx => hb x (List.mem_of_mem_take (List.mem_of_mem_drop hx)))
 have hk3 : (bodyOf l).length ≤ c0 - 4 := by omega
 have hlB : (bodyOf l).length ≤ 90000 := by omega
 rw [e1] at hs3
 rw [show (Kd.int .u8).sz = 1 from rfl] at hC3
 change Kd.C _ _ _ (bodyOf l).length (bodyOf l) at hC3
 rw [show ((4 : Int)).toNat = 4 from rfl, e5] at hs3
 generalize (if c0 = 4 then A0 else Option.map (fun x => x.add (4 * 1)) A0) = A3 at hs3 hC3
 generalize hc3 : c0 - 4 = c3 at hs3 hk3
 generalize bodyOf l = c at hs3 hC3 hb3 hk3 hlB e5 ⊢
 rw [e2] at hs1
 generalize (if c0 = l.length - 4 then A0 else Option.map (fun x => x.add ((l.length - 4) * 1)) A0) = A1 at hs1 hC1
 generalize c0 - (l.length - 4) = c1 at hs1 hk1
 rw [e3] at hs2
 generalize hD : l.drop (l.length - 4) = D at *
 generalize hT : l.take (l.length - 4) = T at *
 have hWT : Below (w.alloc (.cells #[.slice none 0 0, .slice none 0 0, .slice none 0 0, .slice none 0 0] 27)).heap.size (w.alloc (.cells #[.slice none 0 0, .slice none 0 0, .slice none 0 0, .slice none 0 0] 27)) ((w.alloc (.cells #[.slice none 0 0, .slice none 0 0, .slice none 0 0, .slice none 0 0] 27)).alloc (.cells #[.slice A1 D.length c1, .int .i64 0, .bool false] 71)) := (zX _ _).alloc (z5 _) _
 have hRT : RJ ((w.alloc (.cells #[.slice none 0 0, .slice none 0 0, .slice none 0 0, .slice none 0 0] 27)).alloc (.cells #[.slice A1 D.length c1, .int .i64 0, .bool false] 71)) (w.alloc (.cells #[.slice none 0 0, .slice none 0 0, .slice none 0 0, .slice none 0 0] 27)).heap.size D 0 false := RJ.of (rd_new (w0 := (w.alloc (.cells #[.slice none 0 0, .slice none 0 0, .slice none 0 0, .slice none 0 0] 27))) (heap_alloc_new _ _) (z5 _) hC1 hk1) hWT
 have PN := zA (fun W (hW : Below ((w.alloc (.cells #[.slice none 0 0, .slice none 0 0, .slice none 0 0, .slice none 0 0] 27)).alloc (.cells #[.slice A1 D.length c1, .int .i64 0, .bool false] 71)).heap.size ((w.alloc (.cells #[.slice none 0 0, .slice none 0 0, .slice none 0 0, .slice none 0 0] 27)).alloc (.cells #[.slice A1 D.length c1, .int .i64 0, .bool false] 71)) W) => rnum_j (w.alloc (.cells #[.slice none 0 0, .slice none 0 0, .slice none 0 0, .slice none 0 0] 27)).heap.size W D 0 false 4 (hRT.below hW) hb1)
 have PT := zA (fun W (hW : Below (w.alloc (.cells #[.slice none 0 0, .slice none 0 0, .slice none 0 0, .slice none 0 0] 27)).heap.size (w.alloc (.cells #[.slice none 0 0, .slice none 0 0, .slice none 0 0, .slice none 0 0] 27)) W) => rof_calls A0 c0 T W (zD hC2 hW) hk2 hbT (by omega))
 have HWT := zA hWT
 have HZ0 := zA hz0
 have e7 : (w.alloc (.cells #[.slice none 0 0, .slice none 0 0, .slice none 0 0, .slice none 0 0] 27)).heap.size = w.heap.size + 1 := by simp
 have HC3 := zA (fun W (hW : Below w.heap.size w W) => zD hC3 hW)
 have HK3 := zA hk3
 have HOc := zA hb3
 have HLc := zA hlB
 have hsum : (numR D 0 false 4).1 = 4294967295 - overF 4294967295 T := hsum
 obtain ⟨R, hR⟩ : ∃ R, readC1 c 0 = R := ⟨_, rfl⟩
 rw [hR]
 rw [← readK_is] at hR
 have HR := zA hR
 clear h hB h4 y4 hC1 hC2 hC3 e1 e2 e3 e5 hc3 hz hi0 hsz0 hb1 hb3 hk1 hk2 hk3 hb hd1 hbT hlT hlB hWT hRT hz0 hR
 clear hD hT hy
 go_enter Tryd.func15, Tryd.ntmps15
 rw [e7] at PN
 have hs2w : ∀ W : World, (Instr.slice 28 (.slice A0 l.length c0) none (some (.int .i64 (IntKind.i64.wrap ((l.length : Int) - 4)))) none).run Tryd.prog W = .ok (.slice A0 T.length c0) W := fun W => by rw [i64_w, show wrap64 ((l.length : Int) - 4) = (l.length : Int) - 4 by unfold wrap64; omega]; exact hs2 W
 go_wp2_with fail
 go_region_with (first
  | (go_at_call 41; refine (PN.out _ (by first | exact (zX _ _) | exact (below_drew1 (zX _ _)))).mono ?_; rintro e w9 ⟨rfl, hI9, hk9, hb9⟩)
  | (go_at_call 36; refine (PT.out _ (by first | exact HWT.out.trans (hb9.mono (Nat.le_of_eq e7)) | exact (below_drew1 HWT.out).trans (hb9.mono (Nat.le_of_eq e7)))).mono ?_; rintro e w10 ⟨rfl, hb10⟩))
 simp only [Act.put, zY, List.set_cons_zero, z2]
 have hAB := (below_drew1 HWT.out).trans (hb9.mono (Nat.le_of_eq e7))
 have hABC := hAB.trans (hb10.mono hAB.size)
 have HBW := zA (HB.out.trans (hABC.mono HB.out.size))
 have HZ := zA ((hABC.block w.heap.size (by rw [e7]; omega)).trans HZ0.out)
 have hbne : ((numR D 0 false 4).1 != IntKind.i64.wrap (4294967295 - overF 4294967295 T)) = false := by
  have hlim := overF_lim 4294967295 (by decide) T
  rw [i64_w, show wrap64 (4294967295 - overF 4294967295 T) = 4294967295 - overF 4294967295 T by unfold wrap64; omega]
  simpa using hsum
 have hbne2 : (numR D 0 false 4).1 = IntKind.i64.wrap (4294967295 - overF 4294967295 T) := by simpa using hbne
 clear hAB hABC hb9 hb10 hk9 hI9 PN PT HWT HZ0
 have hX0 : (w10.alloc (.cells #[.slice A3 c.length c3, .int .i64 0, .bool false] 71)).heap.size = w10.heap.size + 1 := by simp
 have HQ := zA (show ((w10.alloc (.cells #[.slice A3 c.length c3, .int .i64 0, .bool false] 71)).alloc (.cells #[.slice none 0 0, .slice none 0 0, .slice none 0 0, .slice none 0 0] 27)).heap[w10.heap.size + 1]? = some (.cells #[.slice none 0 0, .slice none 0 0, .slice none 0 0, .slice none 0 0] 27 (0, 0)) by have := heap_alloc_new (w10.alloc (.cells #[.slice A3 c.length c3, .int .i64 0, .bool false] 71)) (.cells #[.slice none 0 0, .slice none 0 0, .slice none 0 0, .slice none 0 0] 27); rw [hX0] at this; exact this)
 have hr1 : RJ (w10.alloc (.cells #[.slice A3 c.length c3, .int .i64 0, .bool false] 71)) w10.heap.size c 0 false := RJ.of (rd_new (w0 := w10) (heap_alloc_new w10 _) (z5 _) (HC3.out w10 HBW.out) HK3.out) ((zX _ _).alloc (z5 _) _)
 have hb1 : Below w10.heap.size w10 ((w10.alloc (.cells #[.slice A3 c.length c3, .int .i64 0, .bool false] 71)).alloc (.cells #[.slice none 0 0, .slice none 0 0, .slice none 0 0, .slice none 0 0] 27)) := ((zX _ _).alloc (z5 _) _).alloc (by simp) _
 have HI := zA (And.intro (show RJ (((w10.alloc (.cells #[.slice A3 c.length c3, .int .i64 0, .bool false] 71)).alloc (.cells #[.slice none 0 0, .slice none 0 0, .slice none 0 0, .slice none 0 0] 27)).setRow (w10.heap.size + 1) #[.slice none 0 0, .slice none 0 0, .slice none 0 0, .slice none 0 0]) w10.heap.size c 0 false from (hr1.below ((zX _ _).alloc (z5 _) _)).le (fun k hk => setRow_other _ _ _ _ (by omega))) (below_setRow hb1 (Nat.le_succ w10.heap.size) #[.slice none 0 0, .slice none 0 0, .slice none 0 0, .slice none 0 0]))
 have HS := zA (show PSt ⟨none, 0, [], none, 0, [], none, 0, [], none, 0, []⟩ (((w10.alloc (.cells #[.slice A3 c.length c3, .int .i64 0, .bool false] 71)).alloc (.cells #[.slice none 0 0, .slice none 0 0, .slice none 0 0, .slice none 0 0] 27)).setRow (w10.heap.size + 1) #[.slice none 0 0, .slice none 0 0, .slice none 0 0, .slice none 0 0]) w.heap.size (w10.heap.size + 1) from ⟨setRow_heap _ _ _ _ _ _ HQ.out, Kd.R_nil _ _ _ _ _, Kd.R_nil _ _ _ _ _, Kd.R_nil _ _ _ _ _, Kd.R_nil _ _ _ _ _⟩)
 have hZlt : w.heap.size < w10.heap.size := blk_lt HZ.out
 clear hr1 hb1 HC3
 go_wp2_with ((with_reducible refine gate_store (t := 27) (p := 6) (v := .tmp 48) rfl ?_); refine wpList_store_row rfl 27 (.tmp 6) (.tmp 48) rfl (w10.heap.size + 1) #[.slice none 0 0, .slice none 0 0, .slice none 0 0, .slice none 0 0] rfl rfl 27 _ HQ.out (by rw [hip]; rfl) rfl (by kernel_rfl) ?_)
 generalize ((w10.alloc (.cells #[.slice A3 c.length c3, .int .i64 0, .bool false] 71)).alloc (.cells #[.slice none 0 0, .slice none 0 0, .slice none 0 0, .slice none 0 0] 27)).setRow (w10.heap.size + 1) #[.slice none 0 0, .slice none 0 0, .slice none 0 0, .slice none 0 0] = W0 at HI HS ⊢
 clear HQ hX0
 obtain ⟨gr, hgr⟩ : ∃ g, g = w10.heap.size := ⟨_, rfl⟩
 obtain ⟨gp, hgp⟩ : ∃ g, g = w10.heap.size + 1 := ⟨_, rfl⟩
 have hgg : gr < gp := by omega
 have hgw : w10.heap.size ≤ gr := Nat.le_of_eq hgr.symm
 have hgpw : w10.heap.size ≤ gp := by omega
 rw [← hgp] at HS ⊢
 have HRJ := zA HI.out.1
 have HBI := zA HI.out.2
 rw [← hgr] at HRJ ⊢
 clear hgr hgp
 go_loopw [7] (fun iv wr => ∃ (n : Nat) (k : Int) (u : BPure.BR) (a : Int), iv = .int .i64 k ∧ (n : Int) + k = 5 ∧ n ≤ 4 ∧ Aside0 (RJ wr gr c a false ∧ Below w10.heap.size w10 wr) ∧ Aside0 (PSt u wr w.heap.size gp) ∧ Aside0 (readK n c k (BR.lists u) a = R)) (fun iv _ => (5 - intOf iv).toNat)
 case atStart => exact ⟨4, 1, _, 0, rfl, by decide, by decide, ⟨⟨HRJ.out, HBI.out⟩⟩, HS, HR⟩
 case round =>
  clear HI HS HR HRJ HBI
  obtain ⟨n, k, u, a, rfl, hnk, hn4, HI, HS, HR⟩ := hrel
  have HZr := zA ((HI.out.2.block w.heap.size hZlt).trans HZ.out)
  cases n with
  | zero =>
   have hr := HR.out
   unfold readK at hr
   obtain ⟨A1', n1, d1, q1, hn1⟩ := rj_left HI.out.1
   have hk5 : ¬ k < 5 := by omega
   by_cases hz : (c.length : Int) - a > 0
   ·rw [if_pos hz] at hr
    have hz2 : (n1 : Int) > 0 := by omega
    subst hr
    clear hz hn1 HR
    go_wp2_with ((with_reducible refine gate_store (t := 27) (p := 2) (v := .tmp 74) rfl ?_); refine wpList_store_row rfl 27 (.tmp 2) (.tmp 74) rfl w.heap.size #[.slice none 0 0, .slice none 0 0, .slice none 0 0, .slice none 0 0] rfl rfl 27 _ HZr.out (by rw [hip]; rfl) rfl (by kernel_rfl) ?_)
    refine bodyPost_ret (results_ct rfl _ _ w.heap.size 27 #[.slice none 0 0, .slice none 0 0, .slice none 0 0, .slice none 0 0] (0, 0) _ rfl (setRow_heap _ _ _ _ _ _ HZr.out) Tryd.underlying27 rfl hip) rfl ?_
    exact DPost.nil (below_setRow (HBW.out.trans (HI.out.2.mono HBW.out.size)) (z5 _) _)
   ·rw [if_neg hz] at hr
    have hz2 : ¬ (n1 : Int) > 0 := by omega
    subst hr
    clear hz hn1 HR
    go_wp2_with (first
     | ((with_reducible refine gate_dst (N := 75) rfl ?_); refine wpList_load_row rfl 27 (.tmp 6) rfl gp rfl 27 _ (0, 0) _ HS.out.blk Tryd.underlying27 rfl (by rw [hip]; rfl) ?_)
     | ((with_reducible refine gate_store (t := 27) (p := 2) (v := .tmp 75) rfl ?_); refine wpList_store_row rfl 27 (.tmp 2) (.tmp 75) rfl w.heap.size u.cells rfl rfl 27 _ HZr.out (by rw [hip]; rfl) rfl (by kernel_rfl) ?_))
    refine bodyPost_ret (results_ct rfl _ _ w.heap.size 27 u.cells (0, 0) _ rfl (setRow_heap _ _ _ _ _ _ HZr.out) Tryd.underlying27 rfl hip) rfl ?_
    have hlast : ∀ {α : Type} {d : Kd α} {e : Nat} {v : Value} {xs : List α}, d.R e wr w.heap.size (fun k => gp < k) v xs → d.R e (wr.setRow w.heap.size u.cells) w.heap.size (fun _ => True) v xs := fun h => Kd.R_mono (Kd.R_keep h (keep_setRow _ w.heap.size _) (fun k hk => by have : gp < k := hk; omega)) (fun _ _ => trivial)
    exact ⟨u, rfl, ⟨hlast HS.out.c, hlast HS.out.v, hlast HS.out.b, hlast HS.out.d⟩, rfl, below_setRow (HBW.out.trans (HI.out.2.mono HBW.out.size)) (z5 _) _⟩
  | succ n =>
   have hr := HR.out
   unfold readK at hr
   have hk5 : k < 5 := by omega
   have hkk : k = 1 ∨ k = 2 ∨ k = 3 ∨ k = 4 := by omega
   have TC := rtakeS_calls gr wr c a k HI.out.1 HOc.out
   have hok := takeS_ok (a := a) (k := k) HOc.out (by have := HLc.out; omega)
   have hlt := Nat.le_trans (takeS_len (c := c) (a := a) (k := k)) HLc.out
   generalize takeS c a k = t at hr TC hok hlt
   have FC := zA (fun W A d (h : PSt u W w.heap.size gp) hC hc hbg => fill_calls k hkk gp w.heap.size W u A d t.2.1 h hC hc hok (by omega) hbg)
   generalize fillR k t.2.1 (BR.lists u) = f at hr FC
   have TC := zA TC
   have HRr := zA hr
   clear hr HR hok hlt hkk
   go_wp2_with fail
   refine TC.out.mono ?_
   rintro e W1 ⟨A, d, rfl, hC, hl, hI1, hk1, hb1⟩
   have HB1 := zA (HI.out.2.trans (hb1.mono hgw))
   have HS1 := zA (HS.out.keep hk1 hgg)
   have HI1 := zA hI1
   have hr := HRr.out
   clear hk1 hb1 TC HI HS HRr hI1 HZr
   have HZr := zA ((HB1.out.block w.heap.size hZlt).trans HZ.out)
   by_cases ht : t.1 = 0
   rotate_left
   ·rw [if_pos ht] at hr
    subst hr
    have hne1 : (t.1 == 0) = false := by simpa using ht
    have hne2 : (t.1 != 0) = true := by simpa using ht
    clear hC hl
    go_wp2_with ((with_reducible refine gate_store (t := 27) (p := 2) (v := .tmp 66) rfl ?_); refine wpList_store_row rfl 27 (.tmp 2) (.tmp 66) rfl w.heap.size #[.slice none 0 0, .slice none 0 0, .slice none 0 0, .slice none 0 0] rfl rfl 27 _ HZr.out (by rw [hip]; rfl) rfl (by kernel_rfl) ?_)
    refine bodyPost_ret (results_ct rfl _ _ w.heap.size 27 #[.slice none 0 0, .slice none 0 0, .slice none 0 0, .slice none 0 0] (0, 0) _ rfl (setRow_heap _ _ _ _ _ _ HZr.out) Tryd.underlying27 rfl hip) rfl ?_
    exact DPost.nil (below_setRow (HBW.out.trans (HB1.out.mono HBW.out.size)) (z5 _) _)
   ·rw [if_neg (by simpa using ht)] at hr
    have HI1 := zA (HI1.out ht)
    rw [ht]
    have HRr := zA hr
    clear hr
    go_wp2_with fail
    refine (FC.out W1 A d HS1.out hC hl (Nat.le_trans (Nat.le_of_lt hZlt) HB1.out.size)).mono ?_
    rintro e W2 ⟨u2, rfl, hs2, hu2, hb2⟩
    have HS2 := zA hs2
    have HI2 := zA (And.intro (HI1.out.le (fun k hk => hb2.block k (by omega))) (HB1.out.trans (hb2.mono hgpw)))
    have HU2 := zA hu2
    have hr := HRr.out
    clear hs2 hb2 hu2 FC HS1 HI1 HRr HZr hC hl
    have HZr := zA ((HI2.out.2.block w.heap.size hZlt).trans HZ.out)
    by_cases hf : f.1 = 0
    rotate_left
    ·rw [if_pos hf] at hr
     subst hr
     have hne2 : (f.1 != 0) = true := by simpa using hf
     go_wp2_with ((with_reducible refine gate_store (t := 27) (p := 2) (v := .tmp 66) rfl ?_); refine wpList_store_row rfl 27 (.tmp 2) (.tmp 66) rfl w.heap.size #[.slice none 0 0, .slice none 0 0, .slice none 0 0, .slice none 0 0] rfl rfl 27 _ HZr.out (by rw [hip]; rfl) rfl (by kernel_rfl) ?_)
     refine bodyPost_ret (results_ct rfl _ _ w.heap.size 27 #[.slice none 0 0, .slice none 0 0, .slice none 0 0, .slice none 0 0] (0, 0) _ rfl (setRow_heap _ _ _ _ _ _ HZr.out) Tryd.underlying27 rfl hip) rfl ?_
     exact DPost.nil (below_setRow (HBW.out.trans (HI2.out.2.mono HBW.out.size)) (z5 _) _)
    ·rw [if_neg (by simpa using hf), ← HU2.out] at hr
     have HR2 := zA hr
     rw [hf]
     clear hr HB1 HZr
     go_wp2_with fail
     refine ⟨⟨n, k + 1, u2, t.2.2, rfl, by omega, by omega, HI2, HS2, HR2⟩, ?_⟩
     rw [show intOf (.int .i64 (k + 1)) = k + 1 from rfl, show intOf (.int .i64 k) = k from rfl]
     omega
theorem rdecode_calls2 (A0 : Option Addr) (c0 : Nat) (l : List Int) (w : World) (h : Kd.C (Kd.int .u8) w A0 l.length l) (hc : l.length ≤ c0) (hm : l.length ≤ 90000) (hb : ∀ x ∈ l, 0 ≤ x ∧ x < 256) :
  Calls Tryd.prog 15 #[.slice A0 l.length c0] w fun e w' => DPost (readF l) w e w' := by
 unfold readF
 rw [if_neg (by omega)]
 by_cases h8 : l.length < 8
 ·rw [if_pos h8]
  exact rdec_short A0 c0 l w h8
 rw [if_neg h8]
 by_cases hg : magicB l = false
 ·rw [if_pos hg]
  exact rdec_magic A0 c0 l w h hc (by omega) hm hb hg
 rw [if_neg hg]
 have hg : magicB l = true := by simpa using hg
 by_cases hs : ¬ (numR (l.drop (l.length - 4)) 0 false 4).1 = 4294967295 - overF 4294967295 (l.take (l.length - 4))
 ·rw [if_pos hs]
  exact rdec_sum A0 c0 l w h hc (by omega) hm hb hg hs
 rw [if_neg hs]
 exact rdec_whole A0 c0 l w h hc (by omega) hm hb hg (Classical.not_not.1 hs)
end Go.Proofs.YtdbfgfgbjheibaaDoor.Given
end

section
/- Instructions' rights, over the texts of the container. -/
namespace Go.Proofs.YtdbfgfgbjheibaaDoor.BPure
open Go Go.RowKit Go.Proofs.YtdbfgfgbjheibaaDoor Go.Proofs.YtdbfgfgbjheibaaDoor.PBx Go.Proofs.YtdbfgfgbjheibaaDoor.Given Go.Proofs.YtdbfgfgbjheibaaDoorW.PrintWords Go.Proofs.YtdbfgfgbjheibaaDoorW.PrintLast Go.Proofs.YtdbfgfgbjheibaaDoorW.PrintMore
set_option linter.unusedVariables false
set_option linter.unusedSimpArgs false
def right3 (x y z : Int) : Bool := op_Right.f x y z == some true
theorem right_some (x y z : Int) : op_Right.f x y z = some (right3 x y z) := by
 have : ∃ r, op_Right.f x y z = some r := by
  unfold op_Right.f op_Shape.f op_Is.f op_may.f
  simp only [zP]
  repeat' split
  all_goals first | exact ⟨_, rfl⟩ | (simp only [zP]; repeat' split) 
  all_goals first | exact ⟨_, rfl⟩ | (simp only [zP]; repeat' split) 
  all_goals exact ⟨_, rfl⟩
 obtain ⟨r, hr⟩ := this
 unfold right3
 rw [hr]
 cases r <;> rfl
theorem w64 (x : Int) (h0 : -9223372036854775808 ≤ x) (h1 : x < 9223372036854775808) : wrap64 x = x := by unfold wrap64; omega
def mayF (n w : Int) : Bool := if w = 0 then n == 0 else decide (0 ≤ n) && decide (n ≤ 65535)
theorem may_is (n w : Int) : op_may.f n w = some (mayF n w) := by
 unfold op_may.f mayF
 by_cases h : w = 0
 ·rw [if_pos h, if_pos h]
 ·rw [if_neg h, if_neg h]
  by_cases h0 : 0 ≤ n
  ·rw [if_pos h0]; simp [h0]
  ·rw [if_neg h0]; simp [h0]
theorem is_is (x : Int) : op_Is.f x = some (isOp x) := by
 unfold op_Is.f isOp
 by_cases h0 : 0 ≤ x
 ·rw [if_pos h0]; simp [h0]
 ·rw [if_neg h0]; simp [h0]
theorem right_is (x y z : Int) : right3 x y z = (isOp x && mayF y (shapeA x) && mayF z (shapeB x)) := by
 have h : op_Right.f x y z = some (right3 x y z) := right_some x y z
 have h2 : op_Right.f x y z = some (isOp x && mayF y (shapeA x) && mayF z (shapeB x)) := by
  unfold op_Right.f op_Shape.f
  simp only [zP, is_is, may_is]
  cases isOp x <;> cases mayF y (shapeA x) <;> simp
 exact zJ (h.symm.trans h2)
theorem rmay_is (n w : Int) : r12_may.f n w = some (mayF n w) := by
 unfold r12_may.f mayF
 by_cases hn : n = 0
 ·rw [if_pos hn]; subst hn; by_cases h : w = 0 <;> simp [h]
 ·rw [if_neg hn]
  by_cases h : w = 0
  ·rw [if_pos h, if_pos h]; simp [hn]
  ·rw [if_neg h, if_neg h]
   by_cases h0 : n > 0
   ·rw [if_pos h0]
    congr 1
    rw [Bool.eq_iff_iff]
    simp
    omega
   ·rw [if_neg h0]
    congr 1
    rw [Bool.eq_iff_iff]
    simp
    omega
theorem shapes : ∀ n : Fin 38, r12_Shape.f 3 (n.val : Int) = some (shapeA n.val, shapeB n.val) := by decide +kernel
theorem shape_more (x : Int) : ∀ d, r12_Shape.f 3 x = some (shapeA x, shapeB x) → r12_Shape.f (3 + d) x = some (shapeA x, shapeB x) := by
 intro d h
 induction d with
 | zero => exact h
 | succ d ih => exact r12_Shape.mono x (3 + d) _ ih
theorem rshape (x : Int) (k : Nat) (hk : 3 ≤ k) : r12_Shape.f k x = some (shapeA x, shapeB x) := by
 rw [show k = 3 + (k - 3) by omega]
 refine shape_more x _ ?_
 by_cases h : isOp x = true
 ·unfold isOp at h
  simp only [Bool.and_eq_true, decide_eq_true_eq] at h
  obtain ⟨n, rfl⟩ := Int.eq_ofNat_of_zero_le h.1
  exact shapes ⟨n, by omega⟩
 ·unfold shapeA shapeB
  rw [if_neg h, if_neg h]
  unfold isOp at h
  simp only [Bool.and_eq_true, decide_eq_true_eq, not_and] at h
  unfold r12_Shape.f
  by_cases h0 : x < 0
  ·rw [if_pos h0]; rfl
  ·rw [if_neg h0, decide_eq_true (by omega)]; rfl
theorem rright (x y z : Int) (k : Nat) (hk : 3 ≤ k) : r12_Right.f k x y z = some (right3 x y z) := by
 rw [right_is]
 unfold r12_Right.f
 rw [rshape x k hk]
 simp only [zP, rmay_is]
 unfold isOp
 by_cases h0 : x ≥ 0
 ·rw [if_pos h0]
  by_cases h1 : x ≤ 37
  ·rw [if_pos h1, decide_eq_true (show 0 ≤ x from h0), decide_eq_true (show x < 38 by omega)]
   cases mayF y (shapeA x) <;> simp
  ·rw [if_neg h1, decide_eq_false (show ¬ x < 38 by omega)]; simp
 ·rw [if_neg h0, decide_eq_false h0]; simp
end Go.Proofs.YtdbfgfgbjheibaaDoor.BPure
end

section
/- What a short program is, over the texts of the container. -/
namespace Go.Proofs.YtdbfgfgbjheibaaDoor.BPure
open Go Go.RowKit Go.Proofs.YtdbfgfgbjheibaaDoor Go.Proofs.YtdbfgfgbjheibaaDoor.PBx Go.Proofs.YtdbfgfgbjheibaaDoor.Given Go.Proofs.YtdbfgfgbjheibaaDoorW.PrintWords Go.Proofs.YtdbfgfgbjheibaaDoorW.PrintLast Go.Proofs.YtdbfgfgbjheibaaDoorW.PrintMore
set_option linter.unusedVariables false
set_option linter.unusedSimpArgs false
/-- A unit's parts are few. -/
def Ok (U : LU) : Prop := ∀ X ∈ U, X.f0.size ≤ 300 ∧ X.f1.length ≤ 20 ∧ X.f3.length ≤ 1100 ∧ X.f4.length ≤ 600
theorem rd_unit_at (U : LU) (j : Nat) (h : j < U.length) : rd_T48 U (j : Int) = U[j] := by
 unfold rd_T48
 rw [Int.toNat_natCast, List.getD_eq_getElem?_getD, List.getElem?_eq_getElem h]; rfl
end Go.Proofs.YtdbfgfgbjheibaaDoor.BPure
end
