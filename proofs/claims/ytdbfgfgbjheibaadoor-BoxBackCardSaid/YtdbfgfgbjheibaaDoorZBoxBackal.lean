/- Units, plainly, over the texts of the container: whether two are the same. -/
import Derived.Test.YtdbfgfgbjheibaaDoorZBoxBackq
import Derived.Test.YtdbfgfgbjheibaaDoorZBoxBackaf
import Derived.Test.YtdbfgfgbjheibaaDoorZBoxBackai
import Derived.Test.YtdbfgfgbjheibaaDoorZBoxBackaj
import Derived.Test.YtdbfgfgbjheibaaDoorZBoxBackak
section
/- tab.get at three types, as the program reads tables; bytes of at most 1000000000. -/
namespace Go.Proofs.YtdbfgfgbjheibaaDoor.Given
open Go Go.RowKit Go.Proofs.YtdbfgfgbjheibaaDoorW.PrintWords Go.Proofs.YtdbfgfgbjheibaaDoorW.PrintLast Go.Proofs.YtdbfgfgbjheibaaDoorW.PrintMore
set_option linter.unusedVariables false
set_option linter.unusedSimpArgs false
set_option maxHeartbeats 4000000 in
set_option maxRecDepth 100000 in
theorem con_get (A0 : Option Addr) (c0 : Nat) (b : List Int) (w : World) (hr0 : Kd.C (Kd.int .u8) w A0 b.length b) (hc0 : b.length ≤ c0) (hb : okB b = true) :
  Calls Tryd.prog 88 #[.slice A0 b.length c0, .int .i64 1024, .func (.func 89) #[] #[]] w fun e w' => ∃ v0_ : Value, e = .returned (.tuple #[v0_, .int .i64 (getR conR 1024 b).2]) ∧ Kd.R PBx.k68 68 w' w.heap.size (fun _ => True) v0_ (getR conR 1024 b).1 ∧ Below w.heap.size w w' := by
 have HO := zA hb
 have hl := (okB_all hb).2
 obtain ⟨t, hT⟩ : ∃ t, numR b 0 false 2 = t := ⟨_, rfl⟩
 have hrg := num2_range b hb
 rw [hT] at hrg
 obtain ⟨r, hR⟩ : ∃ r, getR conR 1024 b = r := ⟨_, rfl⟩
 rw [hR]
 unfold getR headR at hR
 rw [hT] at hR
 have HT := zA hT
 have HR := zA hR
 clear hb hT hR
 go_enter Tryd.func88, Tryd.ntmps88
 go_wp2_with fail
 refine (new_calls A0 c0 b w hr0 hc0 hl).mono ?_
 rintro e W2 ⟨W1, g, rfl, hI, hb1, hb2⟩
 have hg : w.heap.size ≤ g := Nat.le_trans hb1.size (by obtain ⟨_, _, hg, _⟩ := hI; exact hg)
 have H2 := zA (And.intro (RI.of hI hb2) (hb1.trans (hb2.mono hb1.size)))
 clear hI hb1 hb2 hr0
 go_wp2_with fail
 refine (num_i g W2 b 0 false 2 H2.out.1 HO.out).mono ?_
 rw [HT.out]
 rintro e W3 ⟨rfl, h3, hk3, hb3⟩
 have H3 := zA (And.intro h3 (H2.out.2.trans (hb3.mono hg)))
 clear h3 hk3 hb3 H2 HT
 obtain ⟨n, at0, bad0⟩ := t
 simp only at hrg
 go_wp2_with fail
 refine (bad_i g W3 b _ _ H3.out.1).mono ?_
 rintro e W4 ⟨rfl, m4, rfl⟩
 cases bad0 with
 | true =>
  have hh := HR.out
  simp only [if_true] at hh
  rw [if_neg (by decide)] at hh
  go_wp2_with fail
  go_ret2
  rw [← hh]
  exact ⟨_, rfl, Kd.R_nil _ _ _ _ _, zN H3.out.2 m4⟩
 | false =>
  have hh := HR.out
  simp only [Bool.false_eq_true, if_false] at hh
  by_cases hm : n > 1024
  ·rw [if_pos hm, if_neg (by decide)] at hh
   have HH := zA hh
   clear hh HR
   go_wp2_with fail
   go_ret2
   rw [← HH.out]
   exact ⟨_, rfl, Kd.R_nil _ _ _ _ _, zN H3.out.2 m4⟩
  ·rw [if_neg hm] at hh
   simp only [if_true] at hh
   obtain ⟨u, hU⟩ : ∃ u, rowsR (conR b) n.toNat at0 false [] = u := ⟨_, rfl⟩
   rw [hU] at hh
   have HH := zA hh
   have HU := zA hU
   have H4 := zA (And.intro (H3.out.1.below (zN (zX _ _) m4)) (zN H3.out.2 m4))
   clear hh hU HR H3
   generalize W3.drewN m4 = W4 at H4 ⊢
   obtain ⟨N, rfl⟩ : ∃ N : Nat, n = (N : Int) := ⟨n.toNat, by omega⟩
   rw [Int.toNat_natCast] at HU
   go_wp2_with fail
   go_loopw [10, 23] (fun ov iv wr => ∃ (j : Nat) (at_ : Int) (bad : Bool) (l : List SC), j ≤ N ∧ iv = .int .i64 (j : Int) ∧ Aside0 (l.length = j) ∧ Aside0 (Kd.R PBx.k68 68 wr w.heap.size (fun k => g < k) ov l) ∧ Aside0 (RI wr g b at_ bad ∧ Below w.heap.size w wr) ∧ Aside0 (rowsR (conR b) (N - j) at_ bad l = u)) (fun _ iv _ => N - (intOf iv).toNat)
   case atStart => exact ⟨0, _, _, [], Nat.zero_le _, rfl, ⟨rfl⟩, ⟨Kd.R_nil _ _ _ _ _⟩, H4, HU⟩
   case round =>
    clear HU H4
    obtain ⟨j, at_, bad, l, hj, rfl, HL, HV, HI, HU⟩ := hrel
    obtain ⟨A2, c2, rfl, hl2, hC2⟩ := Kd.R_reads HV.out
    clear hC2 hl2
    by_cases hjn : j < N
    rotate_left
    ·have hu := HU.out
     rw [show N - j = 0 by omega] at hu
     have HU2 := zA (show (l, at_, bad) = u from hu)
     clear hu HU
     go_wp2_with fail
     refine (bad_i g wr b _ _ HI.out.1).mono ?_
     rintro e W5 ⟨rfl, m5, rfl⟩
     cases bad with
     | true =>
      have hh := HH.out
      rw [← HU2.out] at hh
      unfold endR at hh
      simp only [if_true] at hh
      rw [if_neg (by decide)] at hh
      go_wp2_with fail
      go_ret2
      rw [← hh]
      exact ⟨_, rfl, Kd.R_nil _ _ _ _ _, zN HI.out.2 m5⟩
     | false =>
      have hh := HH.out
      rw [← HU2.out] at hh
      unfold endR at hh
      simp only [Bool.false_eq_true, if_false] at hh
      have H5 := zA (left_i g (wr.drewN m5) b at_ (HI.out.1.below (zN (zX _ _) m5)))
      by_cases hz : (b.length : Int) - at_ > 0
      ·rw [if_pos hz, if_neg (by decide)] at hh
       have HH2 := zA hh
       clear hh
       go_wp2_with fail
       refine H5.out.mono ?_
       rintro e W6 ⟨rfl, m6, rfl⟩
       go_wp2_with fail
       go_ret2
       rw [← HH2.out]
       exact ⟨_, rfl, Kd.R_nil _ _ _ _ _, zN HI.out.2 (m5 + m6)⟩
      ·rw [if_neg hz] at hh
       simp only [if_true] at hh
       have HH2 := zA hh
       clear hh
       go_wp2_with fail
       refine H5.out.mono ?_
       rintro e W6 ⟨rfl, m6, rfl⟩
       go_wp2_with fail
       go_ret2
       rw [← HH2.out]
       exact ⟨_, rfl, Kd.R_mono (zS HV.out (m5 + m6)) (fun _ _ => trivial), zN HI.out.2 (m5 + m6)⟩
    ·have hu := HU.out
     rw [show N - j = (N - (j + 1)) + 1 by omega] at hu
     unfold rowsR at hu
     have HU2 := zA hu
     clear hu HU
     go_wp2_with fail
     refine (con_row g wr b at_ bad HI.out.1 HO.out).mono ?_
     rintro e W5 ⟨rfl, h5, hk5, hb5⟩
     have HI5 := zA (And.intro h5 (HI.out.2.trans (hb5.mono hg)))
     have HV5 := zA (R_keep HV.out hk5)
     generalize (conR b at_ bad) = x at HI5 HU2 ⊢
     clear h5 hk5 hb5 HI HV
     go_wp2_with ((with_reducible refine gate_builtin (b := .append) (xs := #[.tmp 25, .tmp 29]) rfl ?_); at_builtin; refine Kd.R_append PBx.k68 (w0 := w) w.heap.size rfl (.tmp 25) (.tmp 29) 22 68 (.agg #[.int .i64 0, .int .i64 0]) 16 rfl Tryd.underlying22 (by kernel_rfl) rfl (by decide) (by omega) (.slice A2 l.length c2) l x.1 [.int .i64 x.1.f0, .int .i64 x.1.f1] (fun k => g < k) (fun _ => False) rfl (by first | (go_simp; done) | (go_simp; rfl)) ?aP (fun _ hk => hk.elim) ?aF ?aO ?aB ?aS ?aL ?_; (case aP => exact PBx.k68_mkM _ _ _ x.1); (case aB => exact HI5.out.2); (case aF => exact fun k hk => Nat.lt_of_lt_of_le HI5.out.1.ltS hk); (case aO => exact HV5.out); (case aS => exact HI5.out.2.size); (case aL => have := HL.out; omega); intro v7 W7 ho7 hb7 hg7 hat7; have HI7 := zA (And.intro (HI5.out.1.grown hg7 (fun k e => HV5.out.1 k e)) hb7); have HV7 := zA ho7; clear hg7 hat7 ho7 hb7)
     refine ⟨⟨j + 1, _, _, l ++ [x.1], by omega, by push_cast; rfl, ⟨by rw [List.length_append, HL.out]; rfl⟩, HV7, HI7, HU2⟩, ?_⟩
     rw [show intOf (.int .i64 ((j : Int) + 1)) = (j : Int) + 1 from rfl, show intOf (.int .i64 (j : Int)) = (j : Int) from rfl]
     omega
def tab_GetConsts.f (b : List Int) : Option (List SC × Int) := if okB b = true then some (getR conR 1024 b) else none
theorem tab_GetConsts.calls (A0 : Option Addr) (c0 : Nat) (l0 : List Int) (r1 : List SC) (r2 : Int) (w : World) (hr0 : Kd.C (Kd.int .u8) w A0 l0.length l0) (hc0 : l0.length ≤ c0) (h : tab_GetConsts.f l0 = some (r1, r2)) :
  Calls Tryd.prog 61 #[.slice A0 l0.length c0] w fun e w' => ∃ v0_ : Value, e = .returned (.tuple #[v0_, .int .i64 r2]) ∧ Kd.R PBx.k68 68 w' w.heap.size (fun _ => True) v0_ r1 ∧ Below w.heap.size w w' := by
 unfold tab_GetConsts.f at h
 split at h
 ·rename_i hb
  have h := zJ h
  have HG := zA (con_get A0 c0 l0 w hr0 hc0 hb)
  rw [h] at HG
  clear h
  go_enter Tryd.func61, Tryd.ntmps61
  go_wp2_with fail
  refine HG.out.mono ?_
  rintro e W1 ⟨v, rfl, ho, hb1⟩
  go_wp2_with fail
  go_ret2
  exact ⟨v, rfl, ho, hb1⟩
 ·cases h
set_option maxHeartbeats 4000000 in
set_option maxRecDepth 100000 in
theorem blk_get (A0 : Option Addr) (c0 : Nat) (b : List Int) (w : World) (hr0 : Kd.C (Kd.int .u8) w A0 b.length b) (hc0 : b.length ≤ c0) (hb : okB b = true) :
  Calls Tryd.prog 94 #[.slice A0 b.length c0, .int .i64 32, .func (.func 95) #[] #[]] w fun e w' => ∃ v0_ : Value, e = .returned (.tuple #[v0_, .int .i64 (getR blkR 32 b).2]) ∧ Kd.R PBx.k43 43 w' w.heap.size (fun _ => True) v0_ (getR blkR 32 b).1 ∧ Below w.heap.size w w' := by
 have HO := zA hb
 have hl := (okB_all hb).2
 obtain ⟨t, hT⟩ : ∃ t, numR b 0 false 2 = t := ⟨_, rfl⟩
 have hrg := num2_range b hb
 rw [hT] at hrg
 obtain ⟨r, hR⟩ : ∃ r, getR blkR 32 b = r := ⟨_, rfl⟩
 rw [hR]
 unfold getR headR at hR
 rw [hT] at hR
 have HT := zA hT
 have HR := zA hR
 clear hb hT hR
 go_enter Tryd.func94, Tryd.ntmps94
 go_wp2_with fail
 refine (new_calls A0 c0 b w hr0 hc0 hl).mono ?_
 rintro e W2 ⟨W1, g, rfl, hI, hb1, hb2⟩
 have hg : w.heap.size ≤ g := Nat.le_trans hb1.size (by obtain ⟨_, _, hg, _⟩ := hI; exact hg)
 have H2 := zA (And.intro (RI.of hI hb2) (hb1.trans (hb2.mono hb1.size)))
 clear hI hb1 hb2 hr0
 go_wp2_with fail
 refine (num_i g W2 b 0 false 2 H2.out.1 HO.out).mono ?_
 rw [HT.out]
 rintro e W3 ⟨rfl, h3, hk3, hb3⟩
 have H3 := zA (And.intro h3 (H2.out.2.trans (hb3.mono hg)))
 clear h3 hk3 hb3 H2 HT
 obtain ⟨n, at0, bad0⟩ := t
 simp only at hrg
 go_wp2_with fail
 refine (bad_i g W3 b _ _ H3.out.1).mono ?_
 rintro e W4 ⟨rfl, m4, rfl⟩
 cases bad0 with
 | true =>
  have hh := HR.out
  simp only [if_true] at hh
  rw [if_neg (by decide)] at hh
  go_wp2_with fail
  go_ret2
  rw [← hh]
  exact ⟨_, rfl, Kd.R_nil _ _ _ _ _, zN H3.out.2 m4⟩
 | false =>
  have hh := HR.out
  simp only [Bool.false_eq_true, if_false] at hh
  by_cases hm : n > 32
  ·rw [if_pos hm, if_neg (by decide)] at hh
   have HH := zA hh
   clear hh HR
   go_wp2_with fail
   go_ret2
   rw [← HH.out]
   exact ⟨_, rfl, Kd.R_nil _ _ _ _ _, zN H3.out.2 m4⟩
  ·rw [if_neg hm] at hh
   simp only [if_true] at hh
   obtain ⟨u, hU⟩ : ∃ u, rowsR (blkR b) n.toNat at0 false [] = u := ⟨_, rfl⟩
   rw [hU] at hh
   have HH := zA hh
   have HU := zA hU
   have H4 := zA (And.intro (H3.out.1.below (zN (zX _ _) m4)) (zN H3.out.2 m4))
   clear hh hU HR H3
   generalize W3.drewN m4 = W4 at H4 ⊢
   obtain ⟨N, rfl⟩ : ∃ N : Nat, n = (N : Int) := ⟨n.toNat, by omega⟩
   rw [Int.toNat_natCast] at HU
   go_wp2_with fail
   go_loopw [10, 23] (fun ov iv wr => ∃ (j : Nat) (at_ : Int) (bad : Bool) (l : List SB), j ≤ N ∧ iv = .int .i64 (j : Int) ∧ Aside0 (l.length = j) ∧ Aside0 (Kd.R PBx.k43 43 wr w.heap.size (fun k => g < k) ov l) ∧ Aside0 (RI wr g b at_ bad ∧ Below w.heap.size w wr) ∧ Aside0 (rowsR (blkR b) (N - j) at_ bad l = u)) (fun _ iv _ => N - (intOf iv).toNat)
   case atStart => exact ⟨0, _, _, [], Nat.zero_le _, rfl, ⟨rfl⟩, ⟨Kd.R_nil _ _ _ _ _⟩, H4, HU⟩
   case round =>
    clear HU H4
    obtain ⟨j, at_, bad, l, hj, rfl, HL, HV, HI, HU⟩ := hrel
    obtain ⟨A2, c2, rfl, hl2, hC2⟩ := Kd.R_reads HV.out
    clear hC2 hl2
    by_cases hjn : j < N
    rotate_left
    ·have hu := HU.out
     rw [show N - j = 0 by omega] at hu
     have HU2 := zA (show (l, at_, bad) = u from hu)
     clear hu HU
     go_wp2_with fail
     refine (bad_i g wr b _ _ HI.out.1).mono ?_
     rintro e W5 ⟨rfl, m5, rfl⟩
     cases bad with
     | true =>
      have hh := HH.out
      rw [← HU2.out] at hh
      unfold endR at hh
      simp only [if_true] at hh
      rw [if_neg (by decide)] at hh
      go_wp2_with fail
      go_ret2
      rw [← hh]
      exact ⟨_, rfl, Kd.R_nil _ _ _ _ _, zN HI.out.2 m5⟩
     | false =>
      have hh := HH.out
      rw [← HU2.out] at hh
      unfold endR at hh
      simp only [Bool.false_eq_true, if_false] at hh
      have H5 := zA (left_i g (wr.drewN m5) b at_ (HI.out.1.below (zN (zX _ _) m5)))
      by_cases hz : (b.length : Int) - at_ > 0
      ·rw [if_pos hz, if_neg (by decide)] at hh
       have HH2 := zA hh
       clear hh
       go_wp2_with fail
       refine H5.out.mono ?_
       rintro e W6 ⟨rfl, m6, rfl⟩
       go_wp2_with fail
       go_ret2
       rw [← HH2.out]
       exact ⟨_, rfl, Kd.R_nil _ _ _ _ _, zN HI.out.2 (m5 + m6)⟩
      ·rw [if_neg hz] at hh
       simp only [if_true] at hh
       have HH2 := zA hh
       clear hh
       go_wp2_with fail
       refine H5.out.mono ?_
       rintro e W6 ⟨rfl, m6, rfl⟩
       go_wp2_with fail
       go_ret2
       rw [← HH2.out]
       exact ⟨_, rfl, Kd.R_mono (zS HV.out (m5 + m6)) (fun _ _ => trivial), zN HI.out.2 (m5 + m6)⟩
    ·have hu := HU.out
     rw [show N - j = (N - (j + 1)) + 1 by omega] at hu
     unfold rowsR at hu
     have HU2 := zA hu
     clear hu HU
     go_wp2_with fail
     refine (blk_row g wr b at_ bad HI.out.1 HO.out).mono ?_
     rintro e W5 ⟨rfl, h5, hk5, hb5⟩
     have HI5 := zA (And.intro h5 (HI.out.2.trans (hb5.mono hg)))
     have HV5 := zA (R_keep HV.out hk5)
     generalize (blkR b at_ bad) = x at HI5 HU2 ⊢
     clear h5 hk5 hb5 HI HV
     go_wp2_with ((with_reducible refine gate_builtin (b := .append) (xs := #[.tmp 25, .tmp 29]) rfl ?_); at_builtin; refine Kd.R_append PBx.k43 (w0 := w) w.heap.size rfl (.tmp 25) (.tmp 29) 24 43 (.agg #[.string ⟨#[]⟩, .int .i64 0]) 24 rfl Tryd.underlying24 (by kernel_rfl) rfl (by decide) (by omega) (.slice A2 l.length c2) l x.1 [.string x.1.f0, .int .i64 x.1.f1] (fun k => g < k) (fun _ => False) rfl (by first | (go_simp; done) | (go_simp; rfl)) ?aP (fun _ hk => hk.elim) ?aF ?aO ?aB ?aS ?aL ?_; (case aP => exact PBx.k43_mkM _ _ _ x.1); (case aB => exact HI5.out.2); (case aF => exact fun k hk => Nat.lt_of_lt_of_le HI5.out.1.ltS hk); (case aO => exact HV5.out); (case aS => exact HI5.out.2.size); (case aL => have := HL.out; omega); intro v7 W7 ho7 hb7 hg7 hat7; have HI7 := zA (And.intro (HI5.out.1.grown hg7 (fun k e => HV5.out.1 k e)) hb7); have HV7 := zA ho7; clear hg7 hat7 ho7 hb7)
     refine ⟨⟨j + 1, _, _, l ++ [x.1], by omega, by push_cast; rfl, ⟨by rw [List.length_append, HL.out]; rfl⟩, HV7, HI7, HU2⟩, ?_⟩
     rw [show intOf (.int .i64 ((j : Int) + 1)) = (j : Int) + 1 from rfl, show intOf (.int .i64 (j : Int)) = (j : Int) from rfl]
     omega
def tab_GetBlocks.f (b : List Int) : Option (List SB × Int) := if okB b = true then some (getR blkR 32 b) else none
theorem tab_GetBlocks.calls (A0 : Option Addr) (c0 : Nat) (l0 : List Int) (r1 : List SB) (r2 : Int) (w : World) (hr0 : Kd.C (Kd.int .u8) w A0 l0.length l0) (hc0 : l0.length ≤ c0) (h : tab_GetBlocks.f l0 = some (r1, r2)) :
  Calls Tryd.prog 64 #[.slice A0 l0.length c0] w fun e w' => ∃ v0_ : Value, e = .returned (.tuple #[v0_, .int .i64 r2]) ∧ Kd.R PBx.k43 43 w' w.heap.size (fun _ => True) v0_ r1 ∧ Below w.heap.size w w' := by
 unfold tab_GetBlocks.f at h
 split at h
 ·rename_i hb
  have h := zJ h
  have HG := zA (blk_get A0 c0 l0 w hr0 hc0 hb)
  rw [h] at HG
  clear h
  go_enter Tryd.func64, Tryd.ntmps64
  go_wp2_with fail
  refine HG.out.mono ?_
  rintro e W1 ⟨v, rfl, ho, hb1⟩
  go_wp2_with fail
  go_ret2
  exact ⟨v, rfl, ho, hb1⟩
 ·cases h
set_option maxHeartbeats 4000000 in
set_option maxRecDepth 100000 in
theorem var_get (A0 : Option Addr) (c0 : Nat) (b : List Int) (w : World) (hr0 : Kd.C (Kd.int .u8) w A0 b.length b) (hc0 : b.length ≤ c0) (hb : okB b = true) :
  Calls Tryd.prog 91 #[.slice A0 b.length c0, .int .i64 64, .func (.func 92) #[] #[]] w fun e w' => ∃ v0_ : Value, e = .returned (.tuple #[v0_, .int .i64 (getR varR 64 b).2]) ∧ Kd.R PBx.k41 41 w' w.heap.size (fun _ => True) v0_ (getR varR 64 b).1 ∧ Below w.heap.size w w' := by
 have HO := zA hb
 have hl := (okB_all hb).2
 obtain ⟨t, hT⟩ : ∃ t, numR b 0 false 2 = t := ⟨_, rfl⟩
 have hrg := num2_range b hb
 rw [hT] at hrg
 obtain ⟨r, hR⟩ : ∃ r, getR varR 64 b = r := ⟨_, rfl⟩
 rw [hR]
 unfold getR headR at hR
 rw [hT] at hR
 have HT := zA hT
 have HR := zA hR
 clear hb hT hR
 go_enter Tryd.func91, Tryd.ntmps91
 go_wp2_with fail
 refine (new_calls A0 c0 b w hr0 hc0 hl).mono ?_
 rintro e W2 ⟨W1, g, rfl, hI, hb1, hb2⟩
 have hg : w.heap.size ≤ g := Nat.le_trans hb1.size (by obtain ⟨_, _, hg, _⟩ := hI; exact hg)
 have H2 := zA (And.intro (RI.of hI hb2) (hb1.trans (hb2.mono hb1.size)))
 clear hI hb1 hb2 hr0
 go_wp2_with fail
 refine (num_i g W2 b 0 false 2 H2.out.1 HO.out).mono ?_
 rw [HT.out]
 rintro e W3 ⟨rfl, h3, hk3, hb3⟩
 have H3 := zA (And.intro h3 (H2.out.2.trans (hb3.mono hg)))
 clear h3 hk3 hb3 H2 HT
 obtain ⟨n, at0, bad0⟩ := t
 simp only at hrg
 go_wp2_with fail
 refine (bad_i g W3 b _ _ H3.out.1).mono ?_
 rintro e W4 ⟨rfl, m4, rfl⟩
 cases bad0 with
 | true =>
  have hh := HR.out
  simp only [if_true] at hh
  rw [if_neg (by decide)] at hh
  go_wp2_with fail
  go_ret2
  rw [← hh]
  exact ⟨_, rfl, Kd.R_nil _ _ _ _ _, zN H3.out.2 m4⟩
 | false =>
  have hh := HR.out
  simp only [Bool.false_eq_true, if_false] at hh
  by_cases hm : n > 64
  ·rw [if_pos hm, if_neg (by decide)] at hh
   have HH := zA hh
   clear hh HR
   go_wp2_with fail
   go_ret2
   rw [← HH.out]
   exact ⟨_, rfl, Kd.R_nil _ _ _ _ _, zN H3.out.2 m4⟩
  ·rw [if_neg hm] at hh
   simp only [if_true] at hh
   obtain ⟨u, hU⟩ : ∃ u, rowsR (varR b) n.toNat at0 false [] = u := ⟨_, rfl⟩
   rw [hU] at hh
   have HH := zA hh
   have HU := zA hU
   have H4 := zA (And.intro (H3.out.1.below (zN (zX _ _) m4)) (zN H3.out.2 m4))
   clear hh hU HR H3
   generalize W3.drewN m4 = W4 at H4 ⊢
   obtain ⟨N, rfl⟩ : ∃ N : Nat, n = (N : Int) := ⟨n.toNat, by omega⟩
   rw [Int.toNat_natCast] at HU
   go_wp2_with fail
   go_loopw [10, 23] (fun ov iv wr => ∃ (j : Nat) (at_ : Int) (bad : Bool) (l : List SV), j ≤ N ∧ iv = .int .i64 (j : Int) ∧ Aside0 (l.length = j) ∧ Aside0 (Kd.R PBx.k41 41 wr w.heap.size (fun k => g < k) ov l) ∧ Aside0 (RI wr g b at_ bad ∧ Below w.heap.size w wr) ∧ Aside0 (rowsR (varR b) (N - j) at_ bad l = u)) (fun _ iv _ => N - (intOf iv).toNat)
   case atStart => exact ⟨0, _, _, [], Nat.zero_le _, rfl, ⟨rfl⟩, ⟨Kd.R_nil _ _ _ _ _⟩, H4, HU⟩
   case round =>
    clear HU H4
    obtain ⟨j, at_, bad, l, hj, rfl, HL, HV, HI, HU⟩ := hrel
    obtain ⟨A2, c2, rfl, hl2, hC2⟩ := Kd.R_reads HV.out
    clear hC2 hl2
    by_cases hjn : j < N
    rotate_left
    ·have hu := HU.out
     rw [show N - j = 0 by omega] at hu
     have HU2 := zA (show (l, at_, bad) = u from hu)
     clear hu HU
     go_wp2_with fail
     refine (bad_i g wr b _ _ HI.out.1).mono ?_
     rintro e W5 ⟨rfl, m5, rfl⟩
     cases bad with
     | true =>
      have hh := HH.out
      rw [← HU2.out] at hh
      unfold endR at hh
      simp only [if_true] at hh
      rw [if_neg (by decide)] at hh
      go_wp2_with fail
      go_ret2
      rw [← hh]
      exact ⟨_, rfl, Kd.R_nil _ _ _ _ _, zN HI.out.2 m5⟩
     | false =>
      have hh := HH.out
      rw [← HU2.out] at hh
      unfold endR at hh
      simp only [Bool.false_eq_true, if_false] at hh
      have H5 := zA (left_i g (wr.drewN m5) b at_ (HI.out.1.below (zN (zX _ _) m5)))
      by_cases hz : (b.length : Int) - at_ > 0
      ·rw [if_pos hz, if_neg (by decide)] at hh
       have HH2 := zA hh
       clear hh
       go_wp2_with fail
       refine H5.out.mono ?_
       rintro e W6 ⟨rfl, m6, rfl⟩
       go_wp2_with fail
       go_ret2
       rw [← HH2.out]
       exact ⟨_, rfl, Kd.R_nil _ _ _ _ _, zN HI.out.2 (m5 + m6)⟩
      ·rw [if_neg hz] at hh
       simp only [if_true] at hh
       have HH2 := zA hh
       clear hh
       go_wp2_with fail
       refine H5.out.mono ?_
       rintro e W6 ⟨rfl, m6, rfl⟩
       go_wp2_with fail
       go_ret2
       rw [← HH2.out]
       exact ⟨_, rfl, Kd.R_mono (zS HV.out (m5 + m6)) (fun _ _ => trivial), zN HI.out.2 (m5 + m6)⟩
    ·have hu := HU.out
     rw [show N - j = (N - (j + 1)) + 1 by omega] at hu
     unfold rowsR at hu
     have HU2 := zA hu
     clear hu HU
     go_wp2_with fail
     refine (var_row g wr b at_ bad HI.out.1 HO.out).mono ?_
     rintro e W5 ⟨rfl, h5, hk5, hb5⟩
     have HI5 := zA (And.intro h5 (HI.out.2.trans (hb5.mono hg)))
     have HV5 := zA (R_keep HV.out hk5)
     generalize (varR b at_ bad) = x at HI5 HU2 ⊢
     clear h5 hk5 hb5 HI HV
     go_wp2_with ((with_reducible refine gate_builtin (b := .append) (xs := #[.tmp 25, .tmp 29]) rfl ?_); at_builtin; refine Kd.R_append PBx.k41 (w0 := w) w.heap.size rfl (.tmp 25) (.tmp 29) 23 41 (.agg #[.string ⟨#[]⟩, .int .i64 0, .int .i64 0, .int .i64 0, .int .i64 0]) 48 rfl Tryd.underlying23 (by kernel_rfl) rfl (by decide) (by omega) (.slice A2 l.length c2) l x.1 [.string x.1.f0, .int .i64 x.1.f1, .int .i64 x.1.f2, .int .i64 x.1.f3, .int .i64 x.1.f4] (fun k => g < k) (fun _ => False) rfl (by first | (go_simp; done) | (go_simp; rfl)) ?aP (fun _ hk => hk.elim) ?aF ?aO ?aB ?aS ?aL ?_; (case aP => exact PBx.k41_mkM _ _ _ x.1); (case aB => exact HI5.out.2); (case aF => exact fun k hk => Nat.lt_of_lt_of_le HI5.out.1.ltS hk); (case aO => exact HV5.out); (case aS => exact HI5.out.2.size); (case aL => have := HL.out; omega); intro v7 W7 ho7 hb7 hg7 hat7; have HI7 := zA (And.intro (HI5.out.1.grown hg7 (fun k e => HV5.out.1 k e)) hb7); have HV7 := zA ho7; clear hg7 hat7 ho7 hb7)
     refine ⟨⟨j + 1, _, _, l ++ [x.1], by omega, by push_cast; rfl, ⟨by rw [List.length_append, HL.out]; rfl⟩, HV7, HI7, HU2⟩, ?_⟩
     rw [show intOf (.int .i64 ((j : Int) + 1)) = (j : Int) + 1 from rfl, show intOf (.int .i64 (j : Int)) = (j : Int) from rfl]
     omega
def tab_GetVars.f (b : List Int) : Option (List SV × Int) := if okB b = true then some (getR varR 64 b) else none
theorem tab_GetVars.calls (A0 : Option Addr) (c0 : Nat) (l0 : List Int) (r1 : List SV) (r2 : Int) (w : World) (hr0 : Kd.C (Kd.int .u8) w A0 l0.length l0) (hc0 : l0.length ≤ c0) (h : tab_GetVars.f l0 = some (r1, r2)) :
  Calls Tryd.prog 63 #[.slice A0 l0.length c0] w fun e w' => ∃ v0_ : Value, e = .returned (.tuple #[v0_, .int .i64 r2]) ∧ Kd.R PBx.k41 41 w' w.heap.size (fun _ => True) v0_ r1 ∧ Below w.heap.size w w' := by
 unfold tab_GetVars.f at h
 split at h
 ·rename_i hb
  have h := zJ h
  have HG := zA (var_get A0 c0 l0 w hr0 hc0 hb)
  rw [h] at HG
  clear h
  go_enter Tryd.func63, Tryd.ntmps63
  go_wp2_with fail
  refine HG.out.mono ?_
  rintro e W1 ⟨v, rfl, ho, hb1⟩
  go_wp2_with fail
  go_ret2
  exact ⟨v, rfl, ho, hb1⟩
 ·cases h
end Go.Proofs.YtdbfgfgbjheibaaDoor.Given
end

section
/- box.read walked whole: what it answers of bytes, or what it throws; bytes of at most 1000000, the operations' table as the program lays it. -/
namespace Go.Proofs.YtdbfgfgbjheibaaDoor.Given
open Go Go.RowKit Go.Proofs.YtdbfgfgbjheibaaDoor Go.Proofs.YtdbfgfgbjheibaaDoorW.PrintWords Go.Proofs.YtdbfgfgbjheibaaDoorW.PrintLast Go.Proofs.YtdbfgfgbjheibaaDoorW.PrintMore
set_option linter.unusedVariables false
set_option linter.unusedSimpArgs false
/-- A program whose lists are of the call's own. -/
structure Own (u : BPure.BR) (W : World) (base : Nat) : Prop where
 c : Kd.R PBx.k68 68 W base (fun _ => True) (.slice u.A0 u.C.length u.c0) u.C
 v : Kd.R PBx.k41 41 W base (fun _ => True) (.slice u.A1 u.V.length u.c1) u.V
 b : Kd.R PBx.k43 43 W base (fun _ => True) (.slice u.A2 u.B.length u.c2) u.B
 d : Kd.R PBx.k48 48 W base (fun _ => True) (.slice u.A3 u.U.length u.c3) u.U
theorem Own.ok {u : BPure.BR} {W : World} {base : Nat} (h : Own u W base) : u.Ok W := by
 have r0 := Kd.R_reads' h.c
 have r1 := Kd.R_reads' h.v
 have r2 := Kd.R_reads' h.b
 have r3 := Kd.R_reads' h.d
 exact ⟨r0.2.2, r0.2.1, r1.2.2, r1.2.1, r2.2.2, r2.2.1, r3.2.2, r3.2.1⟩
theorem own_stepR {α : Type} {d : Kd α} {e base : Nat} {W W1 : World} {v : Value} {xs : List α} (h : d.R e W base (fun _ => True) v xs) (hm : ∀ k, base ≤ k → W1.heap[k]? = W.heap[k]?) : d.R e W1 base (fun _ => True) v xs := Kd.R_mono (Kd.R_step (Kd.R_bound h) (fun k hk _ => hm k hk.2.1)) (fun _ _ => trivial)
theorem Own.step {u : BPure.BR} {W W1 : World} {base : Nat} (h : Own u W base) (hm : ∀ k, base ≤ k → W1.heap[k]? = W.heap[k]?) : Own u W1 base := ⟨own_stepR h.c hm, own_stepR h.v hm, own_stepR h.b hm, own_stepR h.d hm⟩
theorem Own.lower {u : BPure.BR} {W : World} {base b2 : Nat} (h : Own u W base) (hb : b2 ≤ base) : Own u W b2 := ⟨Kd.R_lower h.c hb, Kd.R_lower h.v hb, Kd.R_lower h.b hb, Kd.R_lower h.d hb⟩
theorem Own.below {u : BPure.BR} {W W1 : World} {base : Nat} (h : Own u W base) (hb : Below W.heap.size W W1) : Own u W1 base := ⟨Kd.R_below h.c hb, Kd.R_below h.v hb, Kd.R_below h.b hb, Kd.R_below h.d hb⟩
/-- What the call tells. -/
def RPost (r : Int × PD) (w : World) (e : Ending) (w' : World) : Prop :=
 (r.1 = 0 ∧ (∃ u : BPure.BR, e = .returned (.agg u.cells) ∧ Own u w' w.heap.size ∧ (u.C, u.V, u.B, u.U) = r.2) ∧ Below w.heap.size w w') ∨ (¬ r.1 = 0 ∧ e = .panicked [{ v := wrongV r.1, recovered := false }] ∧ Below w.heap.size w w')
theorem RI.far {W : World} {g : Nat} {b : List Int} {at_ : Int} {bad : Bool} (h : RI W g b at_ bad) {p : Addr} (hp : g < p.block) (v : Value) : RI (W.setCell p v) g b at_ bad := h.le (fun k hk => Below.heap_setCell W p v k (by omega))
theorem R_old {α : Type} {d : Kd α} {e base : Nat} {W W2 W3 : World} {ok : Nat → Prop} {v : Value} {xs : List α} {g2 : Nat} (h : d.R e W base ok v xs) (hb : Below W.heap.size W W2) (hb3 : Below g2 W2 W3) (hg2 : W.heap.size ≤ g2) : d.R e W3 base ok v xs := Kd.R_step h (fun k _ hlt => (hb3.block k (by omega)).trans (hb.block k hlt))
theorem R_newer {α : Type} {d : Kd α} {e base b2 gp : Nat} {W : World} {v : Value} {xs : List α} (h : d.R e W b2 (fun _ => True) v xs) (h1 : base ≤ b2) (h2 : gp < b2) : d.R e W base (fun k => gp < k) v xs := Kd.R_lower (Kd.R_mono (Kd.R_bound h) (fun k hk => Nat.lt_of_lt_of_le h2 hk.2.1)) h1
set_option maxHeartbeats 8000000 in
set_option maxRecDepth 100000 in
theorem read_whole (A0 : Option Addr) (c0 : Nat) (l : List Int) (w : World) (h : Kd.C (Kd.int .u8) w A0 l.length l) (hc : l.length ≤ c0) (h8 : 8 ≤ l.length) (hm : l.length ≤ 1000000) (hb : ∀ x ∈ l, 0 ≤ x ∧ x < 256) (heq : magicB l = true)
  (hsum : (numR (l.drop (l.length - 4)) 0 false 4).1 = 4294967295 - overF 4294967295 (l.take (l.length - 4))) (hL : LaidOps w) :
  Calls Tryd.prog 25 #[.slice A0 l.length c0] w fun e w' => RPost (readC1 (bodyOf l) 0) w e w' := by
 have hB : Below w.heap.size w (w.alloc (.cells #[.slice none 0 0, .slice none 0 0, .slice none 0 0, .slice none 0 0] 27)) := (zX _ _).alloc (z5 _) _
 have hz0 := heap_alloc_new w (.cells #[.slice none 0 0, .slice none 0 0, .slice none 0 0, .slice none 0 0] 27)
 unfold magicB at heq
 have g1 : ¬ ((l.length : Int) > 1048576) := by omega
 have g2 : ¬ ((l.length : Int) < 8) := by omega
 have MB := zA (fun n (hn : ¬ n = 0) W => must_bad n hn W)
 have MO := zA (fun W => must_ok W)
 have HB := zA hB
 have HH := zA (zD h hB)
 have h4 := Kd.C_take (m := 4) (zD h hB) (by omega)
 have y4 : (l.take 4).length = 4 := by rw [zt]; omega
 obtain ⟨y, hy⟩ : ∃ y, y = l.take 4 := ⟨_, rfl⟩
 rw [← hy] at h4 heq y4
 have hcv := Kd.C_string (P := Tryd.prog) (A := A0) (c := c0) Tryd.underlying28 Tryd.underlying5 Tryd.underlying9 (y4 ▸ h4)
 first | rw [y4] at hcv | skip
 have hz : (Tryd.prog.info? 5).map (·.size) = some 1 := by kernel_rfl
 obtain ⟨i0, hi0, hsz0⟩ := Option.map_eq_some_iff.1 hz
 have hs1 := cut_from (P := Tryd.prog) 28 5 .i64 Tryd.underlying28 hi0 1 hsz0 A0 l.length c0 ((l.length : Int) - 4) (by omega) (by omega)
 have hs2 := cut_to (P := Tryd.prog) 28 5 .i64 Tryd.underlying28 hi0 A0 l.length c0 ((l.length : Int) - 4) (by omega) (by omega) hc
 have e1 : ((l.length : Int) - 4).toNat = l.length - 4 := by omega
 have hC1 := Kd.C_drop (m := l.length - 4) (zD h hB) (by omega) hc
 have hC2 := Kd.C_take (m := l.length - 4) (zD h hB) (by omega)
 have e2 : l.length - (l.length - 4) = (l.drop (l.length - 4)).length := by rw [zd]
 have e3 : l.length - 4 = (l.take (l.length - 4)).length := by rw [zt]; omega
 rw [e1] at hs1 hs2
 rw [show (Kd.int .u8).sz = 1 from rfl] at hC1
 have hd1 : (l.drop (l.length - 4)).length = 4 := by rw [zd]; omega
 have hb1 : okB (l.drop (l.length - 4)) = true := by unfold okB; simp only [Bool.and_eq_true, List.all_eq_true, decide_eq_true_eq]; exact ⟨fun x hx => hb x (List.mem_of_mem_drop hx), by omega⟩
 have hbT : ∀ x ∈ l.take (l.length - 4), 0 ≤ x ∧ x < 256 := fun x hx => hb x (List.mem_of_mem_take hx)
 have hlT : (l.take (l.length - 4)).length ≤ 1000000000 := by rw [zt]; omega
 have hk1 : (l.drop (l.length - 4)).length ≤ c0 - (l.length - 4) := by rw [zd]; omega
 have hk2 : (l.take (l.length - 4)).length ≤ c0 := by rw [← e3]; omega
 have hs3 := Go.Proofs.YtdbfgfgbjheibaaDoorW.PrintWords.cut_mid (P := Tryd.prog) 28 5 .i64 .i64 Tryd.underlying28 hi0 1 hsz0 A0 l.length c0 4 ((l.length : Int) - 4) (by omega) (by omega) (by omega) hc
 have hC3 := Kd.C_mid (lo := 4) (hi := l.length - 4) (zD h hB) (by omega) (by omega) hc
 have e5 : l.length - 4 - 4 = (bodyOf l).length := by unfold bodyOf; rw [zd, zt]; omega
 have hb3 : okB (bodyOf l) = true := Pure.okB_of _ (by omega) (fun x hx => hb x (List.mem_of_mem_take (List.mem_of_mem_drop hx)))
 have hk3 : (bodyOf l).length ≤ c0 - 4 := by omega
 have hlB : (bodyOf l).length ≤ 1000000 := by omega
 rw [e1] at hs3
 rw [show (Kd.int .u8).sz = 1 from rfl] at hC3
 change Kd.C _ _ _ (bodyOf l).length (bodyOf l) at hC3
 rw [show ((4 : Int)).toNat = 4 from rfl, e5] at hs3
 generalize (if c0 = 4 then A0 else Option.map (fun x => x.add (4 * 1)) A0) = A3 at hs3 hC3
 generalize hc3 : c0 - 4 = c3 at hs3 hk3
 generalize bodyOf l = c at hs3 hC3 hb3 hk3 hlB e5 ⊢
 rw [e2] at hs1
 generalize (if c0 = l.length - 4 then A0 else Option.map (fun x => x.add ((l.length - 4) * 1)) A0) = A1 at hs1 hC1
 generalize c0 - (l.length - 4) = c1 at hs1 hk1
 rw [e3] at hs2
 generalize hD : l.drop (l.length - 4) = D at *
 generalize hT : l.take (l.length - 4) = T at *
 have PN := zA (fun W (hW : Below (w.alloc (.cells #[.slice none 0 0, .slice none 0 0, .slice none 0 0, .slice none 0 0] 27)).heap.size (w.alloc (.cells #[.slice none 0 0, .slice none 0 0, .slice none 0 0, .slice none 0 0] 27)) W) => new_calls A1 c1 D W (zD hC1 hW) hk1 (by omega))
 have PT := zA (fun W (hW : Below (w.alloc (.cells #[.slice none 0 0, .slice none 0 0, .slice none 0 0, .slice none 0 0] 27)).heap.size (w.alloc (.cells #[.slice none 0 0, .slice none 0 0, .slice none 0 0, .slice none 0 0] 27)) W) => Of_calls A0 c0 T W (zD hC2 hW) hk2 hlT hbT)
 have PB := zA (fun W (hW : Below (w.alloc (.cells #[.slice none 0 0, .slice none 0 0, .slice none 0 0, .slice none 0 0] 27)).heap.size (w.alloc (.cells #[.slice none 0 0, .slice none 0 0, .slice none 0 0, .slice none 0 0] 27)) W) => new_calls A3 c3 c W (zD hC3 hW) hk3 (by omega))
 have HO := zA hb1
 have HOc := zA hb3
 have HLc := zA hlB
 have HL := zA hL
 have HZ0 := zA hz0
 have hip : (Tryd.prog.info? 27).map (·.size) = some 4 := by kernel_rfl
 have hsum : (numR D 0 false 4).1 = 4294967295 - overF 4294967295 T := hsum
 obtain ⟨R, hR⟩ : ∃ R, readC1 c 0 = R := ⟨_, rfl⟩
 rw [hR]
 have HR := zA hR
 clear h hB h4 y4 hC1 hC2 hC3 e1 e2 e3 e5 hc3 hz hi0 hsz0 hb1 hb3 hk1 hk2 hk3 hb hd1 hbT hlT hlB hL hz0 hR
 clear hD hT hy
 go_enter Tryd.func25, Tryd.ntmps25
 go_wp2_with fail
 go_region_with (first
  | (go_at_call 59; refine (PN.out _ (by first | exact (zX _ _) | exact (below_drew1 (zX _ _)))).mono ?_; rintro e w8 ⟨w7, g, rfl, hI8, hb7, hb8⟩; have hb78 := hb7.trans (hb8.mono hb7.size))
  | (go_at_call 60; refine (num_calls g w7 _ D 0 false 4 hI8 hb8 HO.out).mono ?_; rintro e w9 ⟨rfl, hI9, hb9, hk9⟩)
  | (go_at_call 23; refine (PT.out _ (by first | exact hb7.trans (hb9.mono hb7.size) | exact (below_drew1 (zX _ _)).trans (hb7.trans (hb9.mono hb7.size)))).mono ?_; rintro e w10 ⟨rfl, hb10⟩))
 simp only [Act.put, zY, List.set_cons_zero, z2]
 have hbA := (below_drew1 (zX (w.alloc (.cells #[.slice none 0 0, .slice none 0 0, .slice none 0 0, .slice none 0 0] 27)).heap.size (w.alloc (.cells #[.slice none 0 0, .slice none 0 0, .slice none 0 0, .slice none 0 0] 27)))).trans ((hb7.trans (hb9.mono hb7.size)).mono (z5 _))
 have HBA := zA (hbA.trans (hb10.mono hbA.size))
 have HBW := zA (HB.out.trans (HBA.out.mono HB.out.size))
 have HZ := zA ((HBA.out.block w.heap.size (blk_lt HZ0.out)).trans HZ0.out)
 have hbne : ((numR D 0 false 4).1 != IntKind.i64.wrap (4294967295 - overF 4294967295 T)) = false := by
  have hlim := overF_lim 4294967295 (by decide) T
  rw [i64_w, show wrap64 (4294967295 - overF 4294967295 T) = 4294967295 - overF 4294967295 T by unfold wrap64; omega]
  simpa using hsum
 have hbne2 : (numR D 0 false 4).1 = IntKind.i64.wrap (4294967295 - overF 4294967295 T) := by simpa using hbne
 clear hb7 hb8 hb9 hb10 hk9 hbA hI8 hI9
 go_wp2_with fail
 refine (PB.out _ HBA.out).mono ?_
 rintro e N1 ⟨N0, gr, rfl, hI, hn1, hn2⟩
 have hgw : w10.heap.size ≤ gr := Nat.le_trans hn1.size (by obtain ⟨_, _, hg, _⟩ := hI; exact hg)
 have HI0 := zA (And.intro (RI.of hI hn2) (hn1.trans (hn2.mono hn1.size)))
 have hgr := HI0.out.1.ltS
 have HI := zA (And.intro (HI0.out.1.below ((zX N1.heap.size N1).alloc (z5 _) (.cells #[.slice none 0 0, .slice none 0 0, .slice none 0 0, .slice none 0 0] 27))) (HI0.out.2.alloc HI0.out.2.size (.cells #[.slice none 0 0, .slice none 0 0, .slice none 0 0, .slice none 0 0] 27)))
 have HP := zA (heap_alloc_new N1 (.cells #[.slice none 0 0, .slice none 0 0, .slice none 0 0, .slice none 0 0] 27))
 have hgpw : w10.heap.size ≤ N1.heap.size := HI0.out.2.size
 have hZlt : w.heap.size < w10.heap.size := blk_lt HZ.out
 clear hI hn1 hn2 HI0 PN PT PB HBA
 go_wp2_with fail
 generalize N1.alloc (.cells #[.slice none 0 0, .slice none 0 0, .slice none 0 0, .slice none 0 0] 27) = W0 at HI HP ⊢
 generalize N1.heap.size = gp at HP hgr hgpw ⊢
 obtain ⟨t1, hT⟩ : ∃ t, takeS c 0 1 = t := ⟨_, rfl⟩
 obtain ⟨u1, hU⟩ : ∃ u, getR conR 1024 t1.2.1 = u := ⟨_, rfl⟩
 have hr := HR.out
 rw [read1 hT hU] at hr
 have TO := take_ok2 gr W0 c 0 1 HI.out.1 HOc.out
 have TN := take_no gr W0 c 0 1 HI.out.1 HOc.out
 have hok := takeS_ok (a := 0) (k := 1) HOc.out HLc.out
 rw [hT] at TO TN hok
 replace TO := zA TO
 replace TN := zA TN
 have GC := zA (fun A cc W hC hl => tab_GetConsts.calls A cc t1.2.1 u1.1 u1.2 W hC hl (by unfold tab_GetConsts.f; rw [if_pos hok, hU]))
 clear HR hT hU hok
 by_cases ht : t1.1 = 0
 rotate_left
 ·rw [if_pos ht] at hr
  subst hr
  refine (TN.out ht).mono ?_
  rintro e X1 ⟨rfl, hb1⟩
  exact ⟨rfl, .inr ⟨ht, rfl, HBW.out.trans ((HI.out.2.trans (hb1.mono hgw)).mono HBW.out.size)⟩⟩
 rw [if_neg (by simpa using ht)] at hr
 refine (TO.out ht).mono ?_
 rintro e X1 ⟨A, cc, rfl, hC, hl, h1, hk1, hb1⟩
 have HI1 := zA (And.intro h1 (HI.out.2.trans (hb1.mono hgw)))
 have HP1 := zA (hk1.blk HP.out (Nat.ne_of_gt hgr) (by simp))
 clear HI HP TO TN h1 hk1 hb1 ht
 go_wp2_with fail
 refine (GC.out A cc X1 hC hl).mono ?_
 rintro e X2 ⟨v, rfl, ho, hb2⟩
 obtain ⟨AC, cC, rfl, hlC, _⟩ := Kd.R_reads ho
 have HI2 := zA (And.intro (HI1.out.1.below hb2) (HI1.out.2.trans (hb2.mono HI1.out.2.size)))
 have hp2 := (hb2.block _ (blk_lt HP1.out)).trans HP1.out
 have HRC2 := zA (R_newer (base := w10.heap.size) ho HI1.out.2.size (blk_lt HP1.out))
 have fz := zF hp2 0
 have fc := (zC hp2 0).trans rfl
 have HI3 := zA (And.intro (HI2.out.1.far (p := ⟨gp, 0, none⟩) hgr (.slice AC u1.1.length cC)) (zE (j := 0) (v := .slice AC u1.1.length cC) HI2.out.2 hgpw))
 have HP3 := zA (blk_put (cs' := #[.slice AC u1.1.length cC, .slice none 0 0, .slice none 0 0, .slice none 0 0]) hp2 0 (.slice AC u1.1.length cC) rfl)

 have HRC3 := zA (Kd.R_far (p := ⟨gp, 0, none⟩) HRC2.out (fun k hk => Nat.ne_of_gt hk) (.slice AC u1.1.length cC))
 clear HI1 HP1 HI2 GC hC hl ho hb2 hp2 HRC2
 by_cases hq : u1.2 = 0
 rotate_left
 ·rw [if_pos hq] at hr
  subst hr
  go_wp2_with fail
  refine (MB.out u1.2 hq _).mono ?_
  rintro e X3 ⟨rfl, rfl⟩
  exact ⟨rfl, .inr ⟨hq, rfl, HBW.out.trans (HI3.out.2.mono HBW.out.size)⟩⟩
 rw [if_neg (by simpa using hq)] at hr
 rw [hq]
 go_wp2_with fail
 refine (MO.out _).mono ?_
 rintro e W1 ⟨rfl, hX3⟩
 rw [← hX3] at HI3 HP3 HRC3
 clear hX3 fz fc hq
 have HR := zA hr
 have HI := HI3
 have HP := HP3
 have HRC := HRC3
 clear HI3 HP3 hr HRC3
 go_wp2_with fail
 obtain ⟨t2, hT⟩ : ∃ t, takeS c t1.2.2 2 = t := ⟨_, rfl⟩
 obtain ⟨u2, hU⟩ : ∃ u, getR varR 64 t2.2.1 = u := ⟨_, rfl⟩
 have hr := HR.out
 rw [read2 hT hU] at hr
 have TO := take_ok2 gr W1 c t1.2.2 2 HI.out.1 HOc.out
 have TN := take_no gr W1 c t1.2.2 2 HI.out.1 HOc.out
 have hok := takeS_ok (a := t1.2.2) (k := 2) HOc.out HLc.out
 rw [hT] at TO TN hok
 replace TO := zA TO
 replace TN := zA TN
 have GC := zA (fun A cc W hC hl => tab_GetVars.calls A cc t2.2.1 u2.1 u2.2 W hC hl (by unfold tab_GetVars.f; rw [if_pos hok, hU]))
 clear HR hT hU hok
 by_cases ht : t2.1 = 0
 rotate_left
 ·rw [if_pos ht] at hr
  subst hr
  refine (TN.out ht).mono ?_
  rintro e X1 ⟨rfl, hb1⟩
  exact ⟨rfl, .inr ⟨ht, rfl, HBW.out.trans ((HI.out.2.trans (hb1.mono hgw)).mono HBW.out.size)⟩⟩
 rw [if_neg (by simpa using ht)] at hr
 refine (TO.out ht).mono ?_
 rintro e X1 ⟨A, cc, rfl, hC, hl, h1, hk1, hb1⟩
 have HI1 := zA (And.intro h1 (HI.out.2.trans (hb1.mono hgw)))
 have HP1 := zA (hk1.blk HP.out (Nat.ne_of_gt hgr) (by simp))
 have HRC1 := zA (Kd.R_keep HRC.out hk1 (fun k hk => Nat.ne_of_gt (Nat.lt_trans hgr hk)))
 clear HI HP TO TN h1 hk1 hb1 ht HRC
 go_wp2_with fail
 refine (GC.out A cc X1 hC hl).mono ?_
 rintro e X2 ⟨v, rfl, ho, hb2⟩
 obtain ⟨AV, cV, rfl, hlV, _⟩ := Kd.R_reads ho
 have HI2 := zA (And.intro (HI1.out.1.below hb2) (HI1.out.2.trans (hb2.mono HI1.out.2.size)))
 have hp2 := (hb2.block _ (blk_lt HP1.out)).trans HP1.out
 have HRC2 := zA (Kd.R_below HRC1.out hb2)
 have HRV2 := zA (R_newer (base := w10.heap.size) ho HI1.out.2.size (blk_lt HP1.out))
 have fz := zF hp2 1
 have fc := (zC hp2 1).trans rfl
 have HI3 := zA (And.intro (HI2.out.1.far (p := ⟨gp, 1, none⟩) hgr (.slice AV u2.1.length cV)) (zE (j := 1) (v := .slice AV u2.1.length cV) HI2.out.2 hgpw))
 have HP3 := zA (blk_put (cs' := #[.slice AC u1.1.length cC, .slice AV u2.1.length cV, .slice none 0 0, .slice none 0 0]) hp2 1 (.slice AV u2.1.length cV) rfl)

 have HRC3 := zA (Kd.R_far (p := ⟨gp, 1, none⟩) HRC2.out (fun k hk => Nat.ne_of_gt hk) (.slice AV u2.1.length cV))
 have HRV3 := zA (Kd.R_far (p := ⟨gp, 1, none⟩) HRV2.out (fun k hk => Nat.ne_of_gt hk) (.slice AV u2.1.length cV))
 clear HI1 HP1 HI2 GC hC hl ho hb2 hp2 HRC2 HRV2
 clear HRC1
 by_cases hq : u2.2 = 0
 rotate_left
 ·rw [if_pos hq] at hr
  subst hr
  go_wp2_with fail
  refine (MB.out u2.2 hq _).mono ?_
  rintro e X3 ⟨rfl, rfl⟩
  exact ⟨rfl, .inr ⟨hq, rfl, HBW.out.trans (HI3.out.2.mono HBW.out.size)⟩⟩
 rw [if_neg (by simpa using hq)] at hr
 rw [hq]
 go_wp2_with fail
 refine (MO.out _).mono ?_
 rintro e W2 ⟨rfl, hX3⟩
 rw [← hX3] at HI3 HP3 HRC3 HRV3
 clear hX3 fz fc hq
 have HR := zA hr
 have HI := HI3
 have HP := HP3
 have HRC := HRC3
 have HRV := HRV3
 clear HI3 HP3 hr HRC3 HRV3
 go_wp2_with fail
 obtain ⟨t3, hT⟩ : ∃ t, takeS c t2.2.2 3 = t := ⟨_, rfl⟩
 obtain ⟨u3, hU⟩ : ∃ u, getR blkR 32 t3.2.1 = u := ⟨_, rfl⟩
 have hr := HR.out
 rw [read3 hT hU] at hr
 have TO := take_ok2 gr W2 c t2.2.2 3 HI.out.1 HOc.out
 have TN := take_no gr W2 c t2.2.2 3 HI.out.1 HOc.out
 have hok := takeS_ok (a := t2.2.2) (k := 3) HOc.out HLc.out
 rw [hT] at TO TN hok
 replace TO := zA TO
 replace TN := zA TN
 have GC := zA (fun A cc W hC hl => tab_GetBlocks.calls A cc t3.2.1 u3.1 u3.2 W hC hl (by unfold tab_GetBlocks.f; rw [if_pos hok, hU]))
 clear HR hT hU hok
 by_cases ht : t3.1 = 0
 rotate_left
 ·rw [if_pos ht] at hr
  subst hr
  refine (TN.out ht).mono ?_
  rintro e X1 ⟨rfl, hb1⟩
  exact ⟨rfl, .inr ⟨ht, rfl, HBW.out.trans ((HI.out.2.trans (hb1.mono hgw)).mono HBW.out.size)⟩⟩
 rw [if_neg (by simpa using ht)] at hr
 refine (TO.out ht).mono ?_
 rintro e X1 ⟨A, cc, rfl, hC, hl, h1, hk1, hb1⟩
 have HI1 := zA (And.intro h1 (HI.out.2.trans (hb1.mono hgw)))
 have HP1 := zA (hk1.blk HP.out (Nat.ne_of_gt hgr) (by simp))
 have HRC1 := zA (Kd.R_keep HRC.out hk1 (fun k hk => Nat.ne_of_gt (Nat.lt_trans hgr hk)))
 have HRV1 := zA (Kd.R_keep HRV.out hk1 (fun k hk => Nat.ne_of_gt (Nat.lt_trans hgr hk)))
 clear HI HP TO TN h1 hk1 hb1 ht HRC HRV
 go_wp2_with fail
 refine (GC.out A cc X1 hC hl).mono ?_
 rintro e X2 ⟨v, rfl, ho, hb2⟩
 obtain ⟨AB, cB, rfl, hlB, _⟩ := Kd.R_reads ho
 have HI2 := zA (And.intro (HI1.out.1.below hb2) (HI1.out.2.trans (hb2.mono HI1.out.2.size)))
 have hp2 := (hb2.block _ (blk_lt HP1.out)).trans HP1.out
 have HRC2 := zA (Kd.R_below HRC1.out hb2)
 have HRV2 := zA (Kd.R_below HRV1.out hb2)
 have HRB2 := zA (R_newer (base := w10.heap.size) ho HI1.out.2.size (blk_lt HP1.out))
 have fz := zF hp2 2
 have fc := (zC hp2 2).trans rfl
 have HI3 := zA (And.intro (HI2.out.1.far (p := ⟨gp, 2, none⟩) hgr (.slice AB u3.1.length cB)) (zE (j := 2) (v := .slice AB u3.1.length cB) HI2.out.2 hgpw))
 have HP3 := zA (blk_put (cs' := #[.slice AC u1.1.length cC, .slice AV u2.1.length cV, .slice AB u3.1.length cB, .slice none 0 0]) hp2 2 (.slice AB u3.1.length cB) rfl)

 have HRC3 := zA (Kd.R_far (p := ⟨gp, 2, none⟩) HRC2.out (fun k hk => Nat.ne_of_gt hk) (.slice AB u3.1.length cB))
 have HRV3 := zA (Kd.R_far (p := ⟨gp, 2, none⟩) HRV2.out (fun k hk => Nat.ne_of_gt hk) (.slice AB u3.1.length cB))
 have HRB3 := zA (Kd.R_far (p := ⟨gp, 2, none⟩) HRB2.out (fun k hk => Nat.ne_of_gt hk) (.slice AB u3.1.length cB))
 clear HI1 HP1 HI2 GC hC hl ho hb2 hp2 HRC2 HRV2 HRB2
 clear HRC1
 clear HRV1
 by_cases hq : u3.2 = 0
 rotate_left
 ·rw [if_pos hq] at hr
  subst hr
  go_wp2_with fail
  refine (MB.out u3.2 hq _).mono ?_
  rintro e X3 ⟨rfl, rfl⟩
  exact ⟨rfl, .inr ⟨hq, rfl, HBW.out.trans (HI3.out.2.mono HBW.out.size)⟩⟩
 rw [if_neg (by simpa using hq)] at hr
 rw [hq]
 go_wp2_with fail
 refine (MO.out _).mono ?_
 rintro e W3 ⟨rfl, hX3⟩
 rw [← hX3] at HI3 HP3 HRC3 HRV3 HRB3
 clear hX3 fz fc hq
 have HR := zA hr
 have HI := HI3
 have HP := HP3
 have HRC := HRC3
 have HRV := HRV3
 have HRB := HRB3
 clear HI3 HP3 hr HRC3 HRV3 HRB3
 go_wp2_with fail
 obtain ⟨t4, hT⟩ : ∃ t, takeS c t3.2.2 4 = t := ⟨_, rfl⟩
 obtain ⟨u4, hU⟩ : ∃ u, unitsR t4.2.1 = u := ⟨_, rfl⟩
 have hr := HR.out
 rw [read4 hT hU] at hr
 have TO := take_ok2 gr W3 c t3.2.2 4 HI.out.1 HOc.out
 have TN := take_no gr W3 c t3.2.2 4 HI.out.1 HOc.out
 have hok := takeS_ok (a := t3.2.2) (k := 4) HOc.out HLc.out
 have hlt := Nat.le_trans (takeS_len (c := c) (a := t3.2.2) (k := 4)) HLc.out
 rw [hT] at TO TN hok hlt
 replace TO := zA TO
 replace TN := zA TN
 have UC := zA (fun w0 g W h hL hB hg => units_calls w0 g W t4.2.1 h hok hlt hL hB hg)
 rw [hU] at UC
 have HLT := zA hlt
 clear HR hT hU hok hlt
 by_cases ht : t4.1 = 0
 rotate_left
 ·rw [if_pos ht] at hr
  subst hr
  refine (TN.out ht).mono ?_
  rintro e X1 ⟨rfl, hb1⟩
  exact ⟨rfl, .inr ⟨ht, rfl, HBW.out.trans ((HI.out.2.trans (hb1.mono hgw)).mono HBW.out.size)⟩⟩
 rw [if_neg (by simpa using ht)] at hr
 refine (TO.out ht).mono ?_
 rintro e X1 ⟨A, cc, rfl, hC, hl, h1, hk1, hb1⟩
 have HI1 := zA (And.intro h1 (HI.out.2.trans (hb1.mono hgw)))
 have HP1 := zA (hk1.blk HP.out (Nat.ne_of_gt hgr) (by simp))
 have HRC1 := zA (Kd.R_keep HRC.out hk1 (fun k hk => Nat.ne_of_gt (Nat.lt_trans hgr hk)))
 have HRV1 := zA (Kd.R_keep HRV.out hk1 (fun k hk => Nat.ne_of_gt (Nat.lt_trans hgr hk)))
 have HRB1 := zA (Kd.R_keep HRB.out hk1 (fun k hk => Nat.ne_of_gt (Nat.lt_trans hgr hk)))
 clear HI HP TO TN h1 hk1 hb1 ht HRC HRV HRB
 go_wp2_with fail
 refine (new_calls A cc t4.2.1 X1 hC hl (by have := HLT.out; omega)).mono ?_
 rintro e X2 ⟨X0, g2, rfl, hI2, hb2, hb3⟩
 have hg2 : X1.heap.size ≤ g2 := Nat.le_trans hb2.size (by obtain ⟨_, _, hg, _⟩ := hI2; exact hg)
 have hbN : Below X1.heap.size X1 X2 := hb2.trans (hb3.mono hb2.size)
 have HUN := zA (UC.out X1 g2 X2 (RI.of hI2 hb3) (HL.out.below (HBW.out.trans (HI1.out.2.mono HBW.out.size))) hbN hg2)
 clear UC hC hl hI2 hb2 hb3
 go_wp2_with fail
 refine HUN.out.mono ?_
 rintro e X3 hU4
 clear HUN
 rcases hU4 with ⟨hq, ⟨v, rfl, ho⟩, hb4⟩ | ⟨hq, rfl, hb4⟩
 rotate_left
 ·rw [if_pos hq] at hr
  subst hr
  exact ⟨rfl, .inr ⟨hq, rfl, HBW.out.trans (((HI1.out.2.trans (hbN.mono HI1.out.2.size)).trans (hb4.mono (Nat.le_trans HI1.out.2.size hg2))).mono HBW.out.size)⟩⟩
 rw [if_neg (by simpa using hq)] at hr
 obtain ⟨AU, cU, rfl, hlU, _⟩ := Kd.R_reads ho
 have HI2 := zA (And.intro (HI1.out.1.le (fun k hk => (hb4.block k (by have := HI1.out.1.ltS; omega)).trans (hbN.block k (by have := HI1.out.1.ltS; omega)))) ((HI1.out.2.trans (hbN.mono HI1.out.2.size)).trans (hb4.mono (Nat.le_trans HI1.out.2.size hg2))))
 have hp2 := ((hb4.block gp (Nat.lt_of_lt_of_le (blk_lt HP1.out) hg2)).trans (hbN.block gp (blk_lt HP1.out))).trans HP1.out
 have HRC2 := zA (R_old HRC1.out hbN hb4 hg2)
 have HRV2 := zA (R_old HRV1.out hbN hb4 hg2)
 have HRB2 := zA (R_old HRB1.out hbN hb4 hg2)
 have HRU2 := zA (R_newer (base := w10.heap.size) (gp := gp) (Kd.R_mono ho (fun _ _ => trivial)) (Nat.le_trans HI1.out.2.size hg2) (Nat.lt_of_lt_of_le (blk_lt HP1.out) hg2))
 have fz := zF hp2 3
 have fc := (zC hp2 3).trans rfl
 have HI3 := zA (And.intro (HI2.out.1.far (p := ⟨gp, 3, none⟩) hgr (.slice AU u4.1.length cU)) (zE (j := 3) (v := .slice AU u4.1.length cU) HI2.out.2 hgpw))
 have HP3 := zA (blk_put (cs' := #[.slice AC u1.1.length cC, .slice AV u2.1.length cV, .slice AB u3.1.length cB, .slice AU u4.1.length cU]) hp2 3 (.slice AU u4.1.length cU) rfl)

 have HRC3 := zA (Kd.R_far (p := ⟨gp, 3, none⟩) HRC2.out (fun k hk => Nat.ne_of_gt hk) (.slice AU u4.1.length cU))
 have HRV3 := zA (Kd.R_far (p := ⟨gp, 3, none⟩) HRV2.out (fun k hk => Nat.ne_of_gt hk) (.slice AU u4.1.length cU))
 have HRB3 := zA (Kd.R_far (p := ⟨gp, 3, none⟩) HRB2.out (fun k hk => Nat.ne_of_gt hk) (.slice AU u4.1.length cU))
 have HRU3 := zA (Kd.R_far (p := ⟨gp, 3, none⟩) HRU2.out (fun k hk => Nat.ne_of_gt hk) (.slice AU u4.1.length cU))
 clear HI1 HP1 HI2 ho hb4 hbN hp2 HRC2 HRV2 HRB2 HRU2
 clear HRC1
 clear HRV1
 clear HRB1
 have H5 := zA (left_i gr _ c t4.2.2 HI3.out.1)
 by_cases hz : (c.length : Int) - t4.2.2 > 0
 ·rw [if_pos hz] at hr
  subst hr
  go_wp2_with fail
  refine H5.out.mono ?_
  rintro e X4 ⟨rfl, m6, rfl⟩
  go_wp2_with fail
  refine (MB.out 4 (by decide) _).mono ?_
  rintro e X5 ⟨rfl, rfl⟩
  exact ⟨rfl, .inr ⟨by show ¬ (4 : Int) = 0; decide, rfl, HBW.out.trans ((zN HI3.out.2 m6).mono HBW.out.size)⟩⟩
 ·rw [if_neg hz] at hr
  subst hr
  go_wp2_with fail
  refine H5.out.mono ?_
  rintro e X4 ⟨rfl, m6, rfl⟩
  have HB4 := zA (zN HI3.out.2 m6)
  have HP4 := zA (show ((X3.setCell ⟨gp, 3, none⟩ (.slice AU u4.1.length cU)).drewN m6).heap[gp]? = _ from HP3.out)
  have HRC4 := zA (zS HRC3.out m6)
  have HRV4 := zA (zS HRV3.out m6)
  have HRB4 := zA (zS HRB3.out m6)
  have HRU4 := zA (zS HRU3.out m6)
  clear HI3 HP3 H5 fz fc HRC3 HRV3 HRB3 HRU3
  generalize (X3.setCell ⟨gp, 3, none⟩ (.slice AU u4.1.length cU)).drewN m6 = X5 at HB4 HP4 HRC4 HRV4 HRB4 HRU4 ⊢
  have HZ5 := zA ((HB4.out.block w.heap.size hZlt).trans HZ.out)
  go_wp2_with (first
   | ((with_reducible refine gate_dst (N := 78) rfl ?_); refine wpList_load_row rfl 27 (.tmp 5) rfl gp rfl 27 _ (0, 0) _ HP4.out Tryd.underlying27 rfl (by rw [hip]; rfl) ?_)
   | ((with_reducible refine gate_store (t := 27) (p := 2) (v := .tmp 78) rfl ?_); refine wpList_store_row rfl 27 (.tmp 2) (.tmp 78) rfl w.heap.size #[.slice AC u1.1.length cC, .slice AV u2.1.length cV, .slice AB u3.1.length cB, .slice AU u4.1.length cU] rfl rfl 27 _ HZ5.out (by rw [hip]; rfl) rfl (by kernel_rfl) ?_))
  refine bodyPost_ret (results_single rfl (.cell w.heap.size 27 #[.slice AC u1.1.length cC, .slice AV u2.1.length cV, .slice AB u3.1.length cB, .slice AU u4.1.length cU] (0, 0) _ rfl (setRow_heap _ _ _ _ _ _ HZ5.out) Tryd.underlying27 rfl hip .nil)) rfl ?_
  have hlast : ∀ {α : Type} {d : Kd α} {e : Nat} {v : Value} {xs : List α}, d.R e X5 w10.heap.size (fun k => gp < k) v xs → d.R e (X5.setRow w.heap.size #[.slice AC u1.1.length cC, .slice AV u2.1.length cV, .slice AB u3.1.length cB, .slice AU u4.1.length cU]) w10.heap.size (fun k => gp < k) v xs := fun h => Kd.R_keep h (keep_setRow _ w.heap.size _) (fun k hk => by have : gp < k := hk; omega)
  exact .inl ⟨rfl, ⟨⟨AC, cC, u1.1, AV, cV, u2.1, AB, cB, u3.1, AU, cU, u4.1⟩, rfl, ⟨Kd.R_lower (Kd.R_mono (hlast HRC4.out) (fun _ _ => trivial)) HBW.out.size, Kd.R_lower (Kd.R_mono (hlast HRV4.out) (fun _ _ => trivial)) HBW.out.size, Kd.R_lower (Kd.R_mono (hlast HRB4.out) (fun _ _ => trivial)) HBW.out.size, Kd.R_lower (Kd.R_mono (hlast HRU4.out) (fun _ _ => trivial)) HBW.out.size⟩, rfl⟩, below_setRow (HBW.out.trans (HB4.out.mono HBW.out.size)) (z5 _) _⟩
end Go.Proofs.YtdbfgfgbjheibaaDoor.Given
end

section
/- The document's fill: a section's part of a program. -/
namespace Go.Proofs.YtdbfgfgbjheibaaDoor.Given
open Go Go.RowKit Go.Proofs.YtdbfgfgbjheibaaDoor Go.Proofs.YtdbfgfgbjheibaaDoorW.PrintWords Go.Proofs.YtdbfgfgbjheibaaDoorW.PrintLast Go.Proofs.YtdbfgfgbjheibaaDoorW.PrintMore
set_option linter.unusedVariables false
set_option linter.unusedSimpArgs false
def BR.lists (u : BPure.BR) : PD := (u.C, u.V, u.B, u.U)
/-- A program that is being filled: its block gp, its lists' rows behind it. -/
structure PSt (u : BPure.BR) (W : World) (base gp : Nat) : Prop where
 blk : W.heap[gp]? = some (.cells u.cells 27 (0, 0))
 c : Kd.R PBx.k68 68 W base (fun k => gp < k) (.slice u.A0 u.C.length u.c0) u.C
 v : Kd.R PBx.k41 41 W base (fun k => gp < k) (.slice u.A1 u.V.length u.c1) u.V
 b : Kd.R PBx.k43 43 W base (fun k => gp < k) (.slice u.A2 u.B.length u.c2) u.B
 d : Kd.R PBx.k48 48 W base (fun k => gp < k) (.slice u.A3 u.U.length u.c3) u.U
theorem PSt.below {u : BPure.BR} {W W2 : World} {base gp : Nat} (h : PSt u W base gp) (hb : Below W.heap.size W W2) : PSt u W2 base gp :=
 ⟨(hb.block _ (blk_lt h.blk)).trans h.blk, Kd.R_below h.c hb, Kd.R_below h.v hb, Kd.R_below h.b hb, Kd.R_below h.d hb⟩
end Go.Proofs.YtdbfgfgbjheibaaDoor.Given
end

section
/- box.Decode where box.read throws: what is thrown comes back. -/
namespace Go.Proofs.YtdbfgfgbjheibaaDoor.Given
open Go Go.RowKit Go.Proofs.YtdbfgfgbjheibaaDoor Go.Proofs.YtdbfgfgbjheibaaDoorW.PrintWords Go.Proofs.YtdbfgfgbjheibaaDoorW.PrintLast Go.Proofs.YtdbfgfgbjheibaaDoorW.PrintMore
set_option linter.unusedVariables false
set_option linter.unusedSimpArgs false
set_option maxRecDepth 100000 in
set_option maxHeartbeats 1000000 in
theorem decode_wrong (A0 : Option Addr) (l0 c0 : Nat) (n : Int) (w : World)
  (hread : ∀ W, Below w.heap.size w W → Calls Tryd.prog 25 #[.slice A0 l0 c0] W fun e w' => e = .panicked [{ v := .iface 59 (.agg #[.int .i64 n]), recovered := false }] ∧ Below W.heap.size W w') :
  Calls Tryd.prog 10 #[.slice A0 l0 c0] w fun e w' => e = .returned (.tuple #[.agg #[.slice none 0 0, .slice none 0 0, .slice none 0 0, .slice none 0 0], .int .i64 n]) ∧ Below w.heap.size w w' := by
 have hmf : ∀ (fn : Fn) (first cap : Array Value) (w : World), (Instr.makeFunc fn first cap).run Tryd.prog w = .ok (.func fn first cap) w := fun _ _ _ _ => rfl
 have HR := zA hread
 clear hread
 go_enter_defers Tryd.func10, Tryd.ntmps10
 go_wp2_with fail
 have hB : Below w.heap.size w ((w.alloc (.cells #[.slice none 0 0, .slice none 0 0, .slice none 0 0, .slice none 0 0] 27)).alloc (.cells #[.int .i64 0] 33)) := ((zX _ _).alloc (z5 _) _).alloc (by simp) _
 have hgp : ((w.alloc (.cells #[.slice none 0 0, .slice none 0 0, .slice none 0 0, .slice none 0 0] 27)).alloc (.cells #[.int .i64 0] 33)).heap[w.heap.size]? = some (.cells #[.slice none 0 0, .slice none 0 0, .slice none 0 0, .slice none 0 0] 27 (0, 0)) := ((zX _ (w.alloc (.cells #[.slice none 0 0, .slice none 0 0, .slice none 0 0, .slice none 0 0] 27))).alloc (z5 _) _).block w.heap.size (by simp) |>.trans (heap_alloc_new w _)
 have hgq : ((w.alloc (.cells #[.slice none 0 0, .slice none 0 0, .slice none 0 0, .slice none 0 0] 27)).alloc (.cells #[.int .i64 0] 33)).heap[w.heap.size + 1]? = some (.cells #[.int .i64 0] 33 (0, 0)) := by
  have := heap_alloc_new (w.alloc (.cells #[.slice none 0 0, .slice none 0 0, .slice none 0 0, .slice none 0 0] 27)) (.cells #[.int .i64 0] 33)
  simpa using this
 refine (HR.out _ hB).mono ?_
 rintro e w2 ⟨rfl, hb⟩
 have hp2 := (hb.block _ (blk_lt hgp)).trans hgp
 have hq2 := (hb.block _ (blk_lt hgq)).trans hgq
 have hB2 := hB.trans (hb.mono hB.size)
 dsimp only
 try simp only [Exit.then]
 try dsimp only
 refine leaves_cons (f := 24) (args := #[.pointer (some ⟨w.heap.size, 0, none⟩), .pointer (some ⟨w.heap.size + 1, 0, none⟩)]) (by simp) (by simp [go_sem]) ?_
 refine (catch_wrong n w.heap.size (w.heap.size + 1) w2 hp2 hq2 (by omega)).mono ?_
 rintro e u' w3 ⟨rfl, rfl, hW3⟩
 have ha := (zX w2.heap.size w2).alloc (z5 _) (.cells #[.int .i64 n] 59)
 have hp3 := (ha.block _ (blk_lt hp2)).trans hp2
 have hq3 := (ha.block _ (blk_lt hq2)).trans hq2
 have k0 := (zC hp3 0).trans rfl
 have k1 := (zC hp3 1).trans rfl
 have k2 := (zC hp3 2).trans rfl
 have k3 := (zC hp3 3).trans rfl
 have kq := (zC hq3 0).trans rfl
 have hne : w.heap.size + 1 ≠ w.heap.size := by omega
 have hB3 : Below w.heap.size w w3 := by
  rw [hW3]
  have q := zE (j := 0) (v := .int .i64 n) (g := w.heap.size + 1) (zE (j := 3) (v := .slice none 0 0) (zE (j := 2) (v := .slice none 0 0) (zE (j := 1) (v := .slice none 0 0) (zE (j := 0) (v := .slice none 0 0) (hB2.trans (ha.mono hB2.size)) (z5 _)) (z5 _)) (z5 _)) (z5 _)) (Nat.le_succ _)
  first | exact below_drew1 q | exact q
 have c0 : w3.cell? ⟨w.heap.size, 0, none⟩ = some (.slice none 0 0) := by rw [hW3]; simp [go_sem, k0, k1, k2, k3, kq, hne]
 have c1 : w3.cell? ⟨w.heap.size, 1, none⟩ = some (.slice none 0 0) := by rw [hW3]; simp [go_sem, k0, k1, k2, k3, kq, hne]
 have c2 : w3.cell? ⟨w.heap.size, 2, none⟩ = some (.slice none 0 0) := by rw [hW3]; simp [go_sem, k0, k1, k2, k3, kq, hne]
 have c3 : w3.cell? ⟨w.heap.size, 3, none⟩ = some (.slice none 0 0) := by rw [hW3]; simp [go_sem, k0, k1, k2, k3, kq, hne]
 have cq : w3.cell? ⟨w.heap.size + 1, 0, none⟩ = some (.int .i64 n) := by rw [hW3]; simp [go_sem, k0, k1, k2, k3, kq, hne]
 clear hW3 k0 k1 k2 k3 kq
 simp [Leaves, settle, results, Tryd.results10, go_sem, c0, c1, c2, c3, cq, hB3]
end Go.Proofs.YtdbfgfgbjheibaaDoor.Given
end

section
/- box.Decode of any bytes: what it answers is what they say; bytes of at most 1000000, the operations' table as the program lays it. -/
namespace Go.Proofs.YtdbfgfgbjheibaaDoor.Given
open Go Go.RowKit Go.Proofs.YtdbfgfgbjheibaaDoor Go.Proofs.YtdbfgfgbjheibaaDoorW.PrintWords Go.Proofs.YtdbfgfgbjheibaaDoorW.PrintLast Go.Proofs.YtdbfgfgbjheibaaDoorW.PrintMore
set_option linter.unusedVariables false
set_option linter.unusedSimpArgs false
set_option maxRecDepth 100000 in
set_option maxHeartbeats 1000000 in
/-- The closure of box.Decode where nothing was thrown. -/
theorem catch_none (p q : Addr) (w : World) :
  CallsD Tryd.prog 24 #[.pointer (some p), .pointer (some q)] .returning w fun e u' w' => e = .returned (.tuple #[]) ∧ u' = .returning ∧ w' = w := by
 have h0 : ∀ w : World, (eqGuard BinOp.neq 20 (Operand.tmp 6) (Operand.const Value.nilIface) Value.nilIface Value.nilIface).run Tryd.prog w = .ok () w := fun _ => by kernel_rfl
 have h1 : ∀ w : World, (binOp BinOp.neq 20 Value.nilIface Value.nilIface).run Tryd.prog w = .ok (.bool false) w := fun _ => by kernel_rfl
 refine callsD_of_wpS Tryd.func24 rfl fun c₀ cs hu => ?_
 apply wpS_seq
 apply wpS_region
 simp [wpOpsS, go_sem, recoverD, hu, Tryd.ntmps24, Exit.thenS]
 refine wpS_of_wp ?_
 rw [show (#[Value.pointer (some p), Value.pointer (some q)] ++ ((Array.replicate 17 undef).setIfInBounds 3 .nilIface).setIfInBounds 0 .nilIface : Array Value) = #[.pointer (some p), .pointer (some q), .nilIface, undef, undef, .nilIface, undef, undef, undef, undef, undef, undef, undef, undef, undef, undef, undef, undef, undef] from rfl]
 go_wp2
 cases c₀
 simp_all [bodyPostS, results, Tryd.results24, Exit.thenS]
set_option maxRecDepth 100000 in
set_option maxHeartbeats 2000000 in
theorem decode_ok (A0 : Option Addr) (l0 c0 : Nat) (Pu : BPure.BR → Prop) (w : World)
  (hread : ∀ W, Below w.heap.size w W → Calls Tryd.prog 25 #[.slice A0 l0 c0] W fun e w' => ∃ u : BPure.BR, e = .returned (.agg u.cells) ∧ Own u w' W.heap.size ∧ Pu u ∧ Below W.heap.size W w') :
  Calls Tryd.prog 10 #[.slice A0 l0 c0] w fun e w' => ∃ u : BPure.BR, e = .returned (.tuple #[.agg u.cells, .int .i64 0]) ∧ Own u w' w.heap.size ∧ Pu u ∧ Below w.heap.size w w' := by
 have hmf : ∀ (fn : Fn) (first cap : Array Value) (w : World), (Instr.makeFunc fn first cap).run Tryd.prog w = .ok (.func fn first cap) w := fun _ _ _ _ => rfl
 have hi : (Tryd.prog.info? 27).map (·.size) = some 4 := by kernel_rfl
 have HR := zA hread
 clear hread
 go_enter_defers Tryd.func10, Tryd.ntmps10
 go_wp2_with fail
 have hB : Below w.heap.size w ((w.alloc (.cells #[.slice none 0 0, .slice none 0 0, .slice none 0 0, .slice none 0 0] 27)).alloc (.cells #[.int .i64 0] 33)) := ((zX _ _).alloc (z5 _) _).alloc (by simp) _
 have hgp : ((w.alloc (.cells #[.slice none 0 0, .slice none 0 0, .slice none 0 0, .slice none 0 0] 27)).alloc (.cells #[.int .i64 0] 33)).heap[w.heap.size]? = some (.cells #[.slice none 0 0, .slice none 0 0, .slice none 0 0, .slice none 0 0] 27 (0, 0)) := ((zX _ (w.alloc (.cells #[.slice none 0 0, .slice none 0 0, .slice none 0 0, .slice none 0 0] 27))).alloc (z5 _) _).block w.heap.size (by simp) |>.trans (heap_alloc_new w _)
 have hgq : ((w.alloc (.cells #[.slice none 0 0, .slice none 0 0, .slice none 0 0, .slice none 0 0] 27)).alloc (.cells #[.int .i64 0] 33)).heap[w.heap.size + 1]? = some (.cells #[.int .i64 0] 33 (0, 0)) := by
  have := heap_alloc_new (w.alloc (.cells #[.slice none 0 0, .slice none 0 0, .slice none 0 0, .slice none 0 0] 27)) (.cells #[.int .i64 0] 33)
  simpa using this
 refine (HR.out _ hB).mono ?_
 rintro e w2 ⟨u, rfl, hu, hPu, hb⟩
 have HP2 := zA ((hb.block _ (blk_lt hgp)).trans hgp)
 have hq2 := (hb.block _ (blk_lt hgq)).trans hgq
 have HB2 := zA (hB.trans (hb.mono hB.size))
 have hq3 : (w2.setRow w.heap.size u.cells).heap[w.heap.size + 1]? = some (.cells #[.int .i64 0] 33 (0, 0)) := (setRow_other _ _ _ _ (by omega)).trans hq2
 have hp3 := setRow_heap _ _ _ u.cells _ _ HP2.out
 have fz := zF hq3 0
 have fc := (zC hq3 0).trans rfl
 have HQ3 := zA hq3
 have HU := zA (hu.lower (b2 := w.heap.size + 2) (by simp))
 have HPu := zA hPu
 have HP3 := zA hp3
 clear hB hgp hgq hb hq2 hu hPu hp3 hq3 HR
 dsimp only
 try simp only [Exit.then]
 try dsimp only
 go_wp2_with ((with_reducible refine gate_store (t := 27) (p := 2) (v := .tmp 6) rfl ?_); refine wpList_store_row rfl 27 (.tmp 2) (.tmp 6) rfl w.heap.size u.cells rfl rfl 27 _ HP2.out (by rw [hi]; rfl) rfl (by kernel_rfl) ?_)
 have HQ5 := zA (blk_put (cs' := #[.int .i64 0]) HQ3.out 0 (.int .i64 0) rfl)
 have HP5 := zA ((Below.heap_setCell (w2.setRow w.heap.size u.cells) ⟨w.heap.size + 1, 0, none⟩ (.int .i64 0) w.heap.size (by show w.heap.size ≠ w.heap.size + 1; omega)).trans HP3.out)
 have HB3 := below_setRow HB2.out (z5 w.heap.size) u.cells
 have HB4 := zA (zE (j := 0) (v := .int .i64 0) (g := w.heap.size + 1) HB3 (Nat.le_succ _))
 clear HQ3 HB3 HP3 fz fc HP2
 refine leaves_cons (f := 24) (args := #[.pointer (some ⟨w.heap.size, 0, none⟩), .pointer (some ⟨w.heap.size + 1, 0, none⟩)]) (by simp) (by simp [go_sem]) ?_
 refine (catch_none ⟨w.heap.size, 0, none⟩ ⟨w.heap.size + 1, 0, none⟩ _).mono ?_
 rintro e u' w'' ⟨rfl, rfl, rfl⟩
 have c0 : ((w2.setRow w.heap.size u.cells).setCell ⟨w.heap.size + 1, 0, none⟩ (.int .i64 0)).cell? ⟨w.heap.size, 0, none⟩ = some (.slice u.A0 u.C.length u.c0) := (zC HP5.out 0).trans rfl
 have c1 : ((w2.setRow w.heap.size u.cells).setCell ⟨w.heap.size + 1, 0, none⟩ (.int .i64 0)).cell? ⟨w.heap.size, 1, none⟩ = some (.slice u.A1 u.V.length u.c1) := (zC HP5.out 1).trans rfl
 have c2 : ((w2.setRow w.heap.size u.cells).setCell ⟨w.heap.size + 1, 0, none⟩ (.int .i64 0)).cell? ⟨w.heap.size, 2, none⟩ = some (.slice u.A2 u.B.length u.c2) := (zC HP5.out 2).trans rfl
 have c3 : ((w2.setRow w.heap.size u.cells).setCell ⟨w.heap.size + 1, 0, none⟩ (.int .i64 0)).cell? ⟨w.heap.size, 3, none⟩ = some (.slice u.A3 u.U.length u.c3) := (zC HP5.out 3).trans rfl
 have cq : ((w2.setRow w.heap.size u.cells).setCell ⟨w.heap.size + 1, 0, none⟩ (.int .i64 0)).cell? ⟨w.heap.size + 1, 0, none⟩ = some (.int .i64 0) := (zC HQ5.out 0).trans rfl
 have HU5 : Own u ((w2.setRow w.heap.size u.cells).setCell ⟨w.heap.size + 1, 0, none⟩ (.int .i64 0)) w.heap.size := (HU.out.step (fun k hk => (Below.heap_setCell _ _ _ k (by show k ≠ w.heap.size + 1; omega)).trans (setRow_other _ _ _ _ (by omega)))).lower (by omega)
 generalize (w2.setRow w.heap.size u.cells).setCell ⟨w.heap.size + 1, 0, none⟩ (.int .i64 0) = w5 at c0 c1 c2 c3 cq HB4 HU5 ⊢
 simp [Leaves, settle, results, Tryd.results10, go_sem, c0, c1, c2, c3, cq]
 exact ⟨u, rfl, HU5, HPu.out, HB4.out⟩
set_option maxHeartbeats 1000000 in
set_option maxRecDepth 100000 in
theorem read_short (A0 : Option Addr) (c0 : Nat) (l : List Int) (w : World) (h8 : l.length < 8) :
  Calls Tryd.prog 25 #[.slice A0 l.length c0] w fun e w' => e = .panicked [{ v := wrongV 1, recovered := false }] ∧ Below w.heap.size w w' := by
 have hB : Below w.heap.size w (w.alloc (.cells #[.slice none 0 0, .slice none 0 0, .slice none 0 0, .slice none 0 0] 27)) := (zX _ _).alloc (z5 _) _
 have g1 : ¬ ((l.length : Int) > 1048576) := by omega
 have g2 : (l.length : Int) < 8 := by omega
 have HM := zA (fun W => must_bad 1 (by decide) W)
 have HB := zA hB
 clear hB
 go_enter Tryd.func25, Tryd.ntmps25
 go_wp2_with fail
 refine (HM.out _).mono ?_
 rintro e w2 ⟨rfl, rfl⟩
 exact ⟨rfl, rfl, HB.out⟩
theorem readC4_no {c : List Int} {C : List SC} {V : List SV} {B : List SB} {a : Int} (h : ¬ (readC4 c C V B a).1 = 0) : (readC4 c C V B a).2 = noP := by
 unfold readC4 at h ⊢
 split
 ·rfl
 ·split
  ·rfl
  ·split
   ·rfl
   ·rw [if_neg (by assumption), if_neg (by assumption), if_neg (by assumption)] at h
    exact absurd rfl h
theorem readC3_no {c : List Int} {C : List SC} {V : List SV} {a : Int} (h : ¬ (readC3 c C V a).1 = 0) : (readC3 c C V a).2 = noP := by
 unfold readC3 at h ⊢
 split
 ·rfl
 ·split
  ·rfl
  ·rw [if_neg (by assumption), if_neg (by assumption)] at h
   exact readC4_no h
theorem readC2_no {c : List Int} {C : List SC} {a : Int} (h : ¬ (readC2 c C a).1 = 0) : (readC2 c C a).2 = noP := by
 unfold readC2 at h ⊢
 split
 ·rfl
 ·split
  ·rfl
  ·rw [if_neg (by assumption), if_neg (by assumption)] at h
   exact readC3_no h
theorem readC1_no {c : List Int} {a : Int} (h : ¬ (readC1 c a).1 = 0) : (readC1 c a).2 = noP := by
 unfold readC1 at h ⊢
 split
 ·rfl
 ·split
  ·rfl
  ·rw [if_neg (by assumption), if_neg (by assumption)] at h
   exact readC2_no h
/-- What a decoder tells of bytes. -/
def DPost (r : Int × PD) (w : World) (e : Ending) (w' : World) : Prop := ∃ u : BPure.BR, e = .returned (.tuple #[.agg u.cells, .int .i64 r.1]) ∧ Own u w' w.heap.size ∧ (u.C, u.V, u.B, u.U) = r.2 ∧ Below w.heap.size w w'
theorem DPost.no {r : Int × PD} {w : World} {e : Ending} {w' : World} (h : e = .returned (.tuple #[.agg #[.slice none 0 0, .slice none 0 0, .slice none 0 0, .slice none 0 0], .int .i64 r.1]) ∧ Below w.heap.size w w') (hr : r.2 = noP) : DPost r w e w' :=
 ⟨⟨none, 0, [], none, 0, [], none, 0, [], none, 0, []⟩, h.1, ⟨Kd.R_nil _ _ _ _ _, Kd.R_nil _ _ _ _ _, Kd.R_nil _ _ _ _ _, Kd.R_nil _ _ _ _ _⟩, hr.symm, h.2⟩
theorem decode_calls2 (A0 : Option Addr) (c0 : Nat) (l : List Int) (w : World) (h : Kd.C (Kd.int .u8) w A0 l.length l) (hc : l.length ≤ c0) (hm : l.length ≤ 1000000) (hb : ∀ x ∈ l, 0 ≤ x ∧ x < 256) (hL : LaidOps w) :
  Calls Tryd.prog 10 #[.slice A0 l.length c0] w fun e w' => DPost (readF l) w e w' := by
 unfold readF
 rw [if_neg (by omega)]
 by_cases h8 : l.length < 8
 ·rw [if_pos h8]
  exact (decode_wrong A0 l.length c0 1 w (fun W hW => read_short A0 c0 l W h8)).mono fun e w' hh => DPost.no hh rfl
 rw [if_neg h8]
 by_cases hg : magicB l = false
 ·rw [if_pos hg]
  exact (decode_wrong A0 l.length c0 2 w (fun W hW => read_magic A0 c0 l W (zD h hW) hc (by omega) (by omega) hg)).mono fun e w' hh => DPost.no hh rfl
 rw [if_neg hg]
 have hg : magicB l = true := by simpa using hg
 by_cases hs : ¬ (numR (l.drop (l.length - 4)) 0 false 4).1 = 4294967295 - overF 4294967295 (l.take (l.length - 4))
 ·rw [if_pos hs]
  exact (decode_wrong A0 l.length c0 3 w (fun W hW => read_sum A0 c0 l W (zD h hW) hc (by omega) (by omega) hb hg hs)).mono fun e w' hh => DPost.no hh rfl
 rw [if_neg hs]
 have hs := Classical.not_not.1 hs
 have hw : ∀ W, Below w.heap.size w W → _ := fun W hW => read_whole A0 c0 l W (zD h hW) hc (by omega) hm hb hg hs (hL.below hW)
 by_cases h0 : (readC1 (bodyOf l) 0).1 = 0
 ·refine (decode_ok A0 l.length c0 (fun u => (u.C, u.V, u.B, u.U) = (readC1 (bodyOf l) 0).2) w (fun W hW => (hw W hW).mono ?_)).mono ?_
  ·rintro e w' (⟨_, ⟨u, he, ho, hp⟩, hB⟩ | ⟨hn, _⟩)
   ·exact ⟨u, he, ho, hp, hB⟩
   ·exact absurd h0 hn
  ·rintro e w' ⟨u, he, ho, hp, hB⟩
   exact ⟨u, by rw [h0]; exact he, ho, hp, hB⟩
 ·refine (decode_wrong A0 l.length c0 (readC1 (bodyOf l) 0).1 w (fun W hW => (hw W hW).mono ?_)).mono fun e w' hh => DPost.no hh (readC1_no h0)
  rintro e w' (⟨hn, _⟩ | ⟨_, he, hB⟩)
  ·exact absurd hn h0
  ·exact ⟨he, hB⟩
end Go.Proofs.YtdbfgfgbjheibaaDoor.Given
end

section
/- The sum of bytes as a shift register: a step by the table is eight steps by bits, and no two states become one; for states below 2^32. -/
namespace Go.Proofs.YtdbfgfgbjheibaaDoor
open Go
def r1 (n : Nat) : Nat := if n % 2 = 1 then (n / 2) ^^^ 3988292384 else n / 2
def r4 (n : Nat) : Nat := r1 (r1 (r1 (r1 n)))
end Go.Proofs.YtdbfgfgbjheibaaDoor
end

section
/- The document's sum of bytes tells what the program's does, over the texts of the container. -/
namespace Go.Proofs.YtdbfgfgbjheibaaDoor.BPure
open Go Go.RowKit Go.Proofs.YtdbfgfgbjheibaaDoor Go.Proofs.YtdbfgfgbjheibaaDoor.PBx Go.Proofs.YtdbfgfgbjheibaaDoor.Given Go.Proofs.YtdbfgfgbjheibaaDoorW.PrintWords Go.Proofs.YtdbfgfgbjheibaaDoorW.PrintLast Go.Proofs.YtdbfgfgbjheibaaDoorW.PrintMore
set_option linter.unusedVariables false
set_option linter.unusedSimpArgs false
def rs : Nat → Nat → Nat
 | 0, s => s
 | n + 1, s => rs n (r1 s)
end Go.Proofs.YtdbfgfgbjheibaaDoor.BPure
end

section
/- The document's Decode: for any bytes it answers what they say; bytes of at most 90000. -/
namespace Go.Proofs.YtdbfgfgbjheibaaDoor.Given
open Go Go.RowKit Go.Proofs.YtdbfgfgbjheibaaDoor Go.Proofs.YtdbfgfgbjheibaaDoorW.PrintWords Go.Proofs.YtdbfgfgbjheibaaDoorW.PrintLast Go.Proofs.YtdbfgfgbjheibaaDoorW.PrintMore
set_option linter.unusedVariables false
set_option linter.unusedSimpArgs false
theorem DPost.nil {n : Int} {w w' : World} (hB : Below w.heap.size w w') : DPost (n, noP) w (.returned (.tuple #[.agg #[.slice none 0 0, .slice none 0 0, .slice none 0 0, .slice none 0 0], .int .i64 n])) w' := DPost.no ⟨rfl, hB⟩ rfl
end Go.Proofs.YtdbfgfgbjheibaaDoor.Given
end

section
/- Instructions' rights, over the texts of the container. -/
namespace Go.Proofs.YtdbfgfgbjheibaaDoor.BPure
open Go Go.RowKit Go.Proofs.YtdbfgfgbjheibaaDoor Go.Proofs.YtdbfgfgbjheibaaDoor.PBx Go.Proofs.YtdbfgfgbjheibaaDoor.Given Go.Proofs.YtdbfgfgbjheibaaDoorW.PrintWords Go.Proofs.YtdbfgfgbjheibaaDoorW.PrintLast Go.Proofs.YtdbfgfgbjheibaaDoorW.PrintMore
set_option linter.unusedVariables false
set_option linter.unusedSimpArgs false
def right3 (x y z : Int) : Bool := op_Right.f x y z == some true
theorem right_some (x y z : Int) : op_Right.f x y z = some (right3 x y z) := by
 have : ∃ r, op_Right.f x y z = some r := by
  unfold op_Right.f op_Shape.f op_Is.f op_may.f
  simp only [zP]
  repeat' split
  all_goals first | exact ⟨_, rfl⟩ | (simp only [zP]; repeat' split) 
  all_goals first | exact ⟨_, rfl⟩ | (simp only [zP]; repeat' split) 
  all_goals exact ⟨_, rfl⟩
 obtain ⟨r, hr⟩ := this
 unfold right3
 rw [hr]
 cases r <;> rfl
theorem w64 (x : Int) (h0 : -9223372036854775808 ≤ x) (h1 : x < 9223372036854775808) : wrap64 x = x := by unfold wrap64; omega
def mayF (n w : Int) : Bool := if w = 0 then n == 0 else decide (0 ≤ n) && decide (n ≤ 65535)
theorem may_is (n w : Int) : op_may.f n w = some (mayF n w) := by
 unfold op_may.f mayF
 by_cases h : w = 0
 ·rw [if_pos h, if_pos h]
 ·rw [if_neg h, if_neg h]
  by_cases h0 : 0 ≤ n
  ·rw [if_pos h0]; simp [h0]
  ·rw [if_neg h0]; simp [h0]
theorem is_is (x : Int) : op_Is.f x = some (isOp x) := by
 unfold op_Is.f isOp
 by_cases h0 : 0 ≤ x
 ·rw [if_pos h0]; simp [h0]
 ·rw [if_neg h0]; simp [h0]
theorem right_is (x y z : Int) : right3 x y z = (isOp x && mayF y (shapeA x) && mayF z (shapeB x)) := by
 have h : op_Right.f x y z = some (right3 x y z) := right_some x y z
 have h2 : op_Right.f x y z = some (isOp x && mayF y (shapeA x) && mayF z (shapeB x)) := by
  unfold op_Right.f op_Shape.f
  simp only [zP, is_is, may_is]
  cases isOp x <;> cases mayF y (shapeA x) <;> simp
 exact zJ (h.symm.trans h2)
end Go.Proofs.YtdbfgfgbjheibaaDoor.BPure
end

section
/- What a short program is, over the texts of the container. -/
namespace Go.Proofs.YtdbfgfgbjheibaaDoor.BPure
open Go Go.RowKit Go.Proofs.YtdbfgfgbjheibaaDoor Go.Proofs.YtdbfgfgbjheibaaDoor.PBx Go.Proofs.YtdbfgfgbjheibaaDoor.Given Go.Proofs.YtdbfgfgbjheibaaDoorW.PrintWords Go.Proofs.YtdbfgfgbjheibaaDoorW.PrintLast Go.Proofs.YtdbfgfgbjheibaaDoorW.PrintMore
set_option linter.unusedVariables false
set_option linter.unusedSimpArgs false
/-- A unit's parts are few. -/
def Ok (U : LU) : Prop := ∀ X ∈ U, X.f0.size ≤ 300 ∧ X.f1.length ≤ 20 ∧ X.f3.length ≤ 1100 ∧ X.f4.length ≤ 600
theorem few15 (X : S48) : ∃ b, w15_Few.f X.f0 X.f1 X.f2 X.f3 X.f4 = some b ∧ (b = true → X.f0.size ≤ 300 ∧ X.f1.length ≤ 20 ∧ X.f3.length ≤ 1100 ∧ X.f4.length ≤ 600) := by
 unfold w15_Few.f
 by_cases h1 : (X.f0.size : Int) ≤ 300
 ·rw [if_pos h1]
  by_cases h2 : (X.f1.length : Int) ≤ 20
  ·rw [if_pos h2]
   by_cases h3 : (X.f3.length : Int) ≤ 1100
   ·rw [if_pos h3]
    exact ⟨_, rfl, fun h => by simp at h; omega⟩
   ·rw [if_neg h3]; exact ⟨_, rfl, fun h => by cases h⟩
  ·rw [if_neg h2]; exact ⟨_, rfl, fun h => by cases h⟩
 ·rw [if_neg h1]; exact ⟨_, rfl, fun h => by cases h⟩
theorem rd_unit_at (U : LU) (j : Nat) (h : j < U.length) : rd_T48 U (j : Int) = U[j] := by
 unfold rd_T48
 rw [Int.toNat_natCast, List.getD_eq_getElem?_getD, List.getElem?_eq_getElem h]; rfl
theorem few_l2 (C : LC) (V : LV) (B : LB) (U : LU) (hl : U.length ≤ 10) : ∀ m j : Nat, j + m = U.length → ∃ b, (∀ k, m + 1 ≤ k → w16_Few.l2 k (j : Int) C V B U = some b) ∧ (b = true → ∀ i (hi : i < U.length), j ≤ i → U[i].f0.size ≤ 300 ∧ U[i].f1.length ≤ 20 ∧ U[i].f3.length ≤ 1100 ∧ U[i].f4.length ≤ 600) := by
 intro m
 induction m with
 | zero =>
  intro j hj
  refine ⟨true, fun k hk => ?_, fun _ i hi h => by omega⟩
  obtain ⟨k, rfl⟩ : ∃ m, k = m + 1 := ⟨k - 1, by omega⟩
  rw [w16_Few.l2, if_neg (by omega)]
 | succ m ih =>
  intro j hj
  have hlt : j < U.length := by omega
  obtain ⟨b1, e1, f1⟩ := few15 U[j]
  obtain ⟨b2, e2, f2⟩ := ih (j + 1) (by omega)
  refine ⟨b1 && b2, fun k hk => ?_, fun h i hi hji => ?_⟩
  ·obtain ⟨k, rfl⟩ : ∃ m, k = m + 1 := ⟨k - 1, by omega⟩
   rw [w16_Few.l2, if_pos (by omega), if_pos (by omega), rd_unit_at U j hlt, e1, zP]
   cases b1 with
   | true => rw [if_pos rfl, w64 _ (by omega) (by omega)]; exact e2 k (by omega)
   | false => rfl
  ·rw [Bool.and_eq_true] at h
   rcases Nat.lt_or_ge j i with h1 | h1
   ·exact f2 h.2 i hi h1
   ·obtain rfl : i = j := by omega
    exact f1 h.1
theorem few_l1 (C : LC) (V : LV) (B : LB) (U : LU) (hl : U.length ≤ 10) (hB : B.length ≤ 40) : ∀ m j : Nat, j + m = B.length → ∃ b, (∀ k, m + 20 ≤ k → w16_Few.l1 k (j : Int) C V B U = some b) ∧ (b = true → Ok U) := by
 intro m
 induction m with
 | zero =>
  intro j hj
  obtain ⟨b, e, f⟩ := few_l2 C V B U hl U.length 0 (by omega)
  refine ⟨b, fun k hk => ?_, fun h X hX => ?_⟩
  ·obtain ⟨k, rfl⟩ : ∃ m, k = m + 1 := ⟨k - 1, by omega⟩
   rw [w16_Few.l1, if_neg (by omega)]
   exact e k (by omega)
  ·obtain ⟨i, hi, rfl⟩ := List.getElem_of_mem hX
   exact f h i hi (Nat.zero_le _)
 | succ m ih =>
  intro j hj
  obtain ⟨b2, e2, f2⟩ := ih (j + 1) (by omega)
  by_cases hs : (((rd_T43 B (j : Int)).f0).size : Int) > 300
  ·refine ⟨false, fun k hk => ?_, fun h => by cases h⟩
   obtain ⟨k, rfl⟩ : ∃ m, k = m + 1 := ⟨k - 1, by omega⟩
   rw [w16_Few.l1, if_pos (by omega), if_pos (by omega), if_pos hs]
  ·refine ⟨b2, fun k hk => ?_, f2⟩
   obtain ⟨k, rfl⟩ : ∃ m, k = m + 1 := ⟨k - 1, by omega⟩
   rw [w16_Few.l1, if_pos (by omega), if_pos (by omega), if_neg hs, w64 _ (by omega) (by omega)]
   exact e2 k (by omega)
theorem few_l0 (C : LC) (V : LV) (B : LB) (U : LU) (hl : U.length ≤ 10) (hB : B.length ≤ 40) (hV : V.length ≤ 70) : ∀ m j : Nat, j + m = V.length → ∃ b, (∀ k, m + 70 ≤ k → w16_Few.l0 k (j : Int) C V B U = some b) ∧ (b = true → Ok U) := by
 intro m
 induction m with
 | zero =>
  intro j hj
  obtain ⟨b, e, f⟩ := few_l1 C V B U hl hB B.length 0 (by omega)
  refine ⟨b, fun k hk => ?_, f⟩
  obtain ⟨k, rfl⟩ : ∃ m, k = m + 1 := ⟨k - 1, by omega⟩
  rw [w16_Few.l0, if_neg (by omega)]
  exact e k (by omega)
 | succ m ih =>
  intro j hj
  obtain ⟨b2, e2, f2⟩ := ih (j + 1) (by omega)
  by_cases hs : (((rd_T41 V (j : Int)).f0).size : Int) > 300
  ·refine ⟨false, fun k hk => ?_, fun h => by cases h⟩
   obtain ⟨k, rfl⟩ : ∃ m, k = m + 1 := ⟨k - 1, by omega⟩
   rw [w16_Few.l0, if_pos (by omega), if_pos (by omega), if_pos hs]
  ·refine ⟨b2, fun k hk => ?_, f2⟩
   obtain ⟨k, rfl⟩ : ∃ m, k = m + 1 := ⟨k - 1, by omega⟩
   rw [w16_Few.l0, if_pos (by omega), if_pos (by omega), if_neg hs, w64 _ (by omega) (by omega)]
   exact e2 k (by omega)
theorem few_is (C : LC) (V : LV) (B : LB) (U : LU) : ∃ b, (∀ k, 200 ≤ k → w16_Few.f k C V B U = some b) ∧ (b = true → Ok U ∧ U.length ≤ 10 ∧ C.length ≤ 60 ∧ V.length ≤ 70 ∧ B.length ≤ 40) := by
 have hj : ∀ k, 1 ≤ k → w16_Few.j0 k true C V B U = some false := fun k hk => by
  obtain ⟨k, rfl⟩ : ∃ m, k = m + 1 := ⟨k - 1, by omega⟩
  rw [w16_Few.j0, if_pos rfl]
 by_cases h1 : (C.length : Int) > 60
 ·exact ⟨false, fun k hk => by unfold w16_Few.f; rw [if_pos h1]; exact hj k (by omega), fun h => by cases h⟩
 by_cases h2 : (V.length : Int) > 70
 ·exact ⟨false, fun k hk => by unfold w16_Few.f; rw [if_neg h1, if_pos h2]; exact hj k (by omega), fun h => by cases h⟩
 by_cases h3 : (B.length : Int) > 40
 ·exact ⟨false, fun k hk => by unfold w16_Few.f; rw [if_neg h1, if_neg h2, if_pos h3]; exact hj k (by omega), fun h => by cases h⟩
 by_cases h4 : (U.length : Int) > 10
 ·exact ⟨false, fun k hk => by unfold w16_Few.f; rw [if_neg h1, if_neg h2, if_neg h3, decide_eq_true h4]; exact hj k (by omega), fun h => by cases h⟩
 obtain ⟨b, e, f⟩ := few_l0 C V B U (by omega) (by omega) (by omega) V.length 0 (by omega)
 refine ⟨b, fun k hk => ?_, fun h => ⟨f h, by omega, by omega, by omega, by omega⟩⟩
 obtain ⟨k, rfl⟩ : ∃ m, k = m + 1 := ⟨k - 1, by omega⟩
 unfold w16_Few.f
 rw [if_neg h1, if_neg h2, if_neg h3, decide_eq_false h4, w16_Few.j0, if_neg (by decide)]
 exact e k (by omega)
end Go.Proofs.YtdbfgfgbjheibaaDoor.BPure
end

section
/- How long what bytes say as a container can be; bytes of at most 3000. -/
namespace Go.Proofs.YtdbfgfgbjheibaaDoor.Given
open Go Go.RowKit Go.Proofs.YtdbfgfgbjheibaaDoor Go.Proofs.YtdbfgfgbjheibaaDoorW.PrintWords Go.Proofs.YtdbfgfgbjheibaaDoorW.PrintLast Go.Proofs.YtdbfgfgbjheibaaDoorW.PrintMore
set_option linter.unusedVariables false
set_option linter.unusedSimpArgs false
theorem num1_lim (b : List Int) (hb : ∀ x ∈ b, 0 ≤ x ∧ x < 256) (at_ : Int) (bad : Bool) : 0 ≤ (numR b at_ bad 1).1 ∧ (numR b at_ bad 1).1 < 256 := by
 unfold numR
 split
 ·have hm : mx 0 (mn 1 8) = 1 := by decide
  rw [hm]
  have hlen : (cutR b at_ 1).length ≤ 1 := by unfold cutR; rw [zt]; exact Nat.le_trans (Nat.min_le_left _ _) (by decide)
  have h := leN_lim (cutR b at_ 1) (fun x hx => hb x (List.mem_of_mem_drop (List.mem_of_mem_take hx)))
  have h2 : (2 : Int) ^ (8 * (cutR b at_ 1).length) ≤ 256 := by
   have h3 : (cutR b at_ 1).length = 0 ∨ (cutR b at_ 1).length = 1 := by omega
   rcases h3 with h3 | h3 <;> rw [h3] <;> decide
  have e : wrap64 (leN (cutR b at_ 1)) = leN (cutR b at_ 1) := by unfold wrap64; omega
  dsimp only
  rw [e]
  omega
 ·exact ⟨Int.le_refl _, by show (0 : Int) < 256; decide⟩
theorem take_most (b : List Int) (at_ : Int) (bad : Bool) (n : Int) : (takeR b at_ bad n).1.length ≤ n.toNat := by
 unfold takeR
 split
 ·unfold cutR
  rw [zt]
  exact Nat.min_le_left _ _
 ·exact Nat.zero_le _
theorem text_lim (b : List Int) (hb : ∀ x ∈ b, 0 ≤ x ∧ x < 256) (at_ : Int) (bad : Bool) : (textR b at_ bad).1.size ≤ 255 := by
 unfold textR
 dsimp only
 rw [str_size]
 have h1 := num1_lim b hb at_ bad
 have h2 := take_most b (numR b at_ bad 1).2.1 (numR b at_ bad 1).2.2 (numR b at_ bad 1).1
 omega
theorem numbers_lim (b : List Int) (at_ : Int) (bad : Bool) (many most : Int) : (numbersR b at_ bad many most).1.length ≤ most.toNat := by
 unfold numbersR
 dsimp only
 split
 ·simp
 ·split
  ·simp
  ·dsimp only
   have := take_most b (numR b at_ bad many).2.1 (numR b at_ bad many).2.2 (numR b at_ bad many).1
   omega
theorem dec_five : ∀ (n : Nat) (l : List Int) (out : List InS), 5 * (decF n l out).1.length ≤ 5 * out.length + l.length
 | 0, _, out => by unfold decF; dsimp only; omega
 | n + 1, [], out => by unfold decF; simp
 | n + 1, [_], out => by unfold decF; simp
 | n + 1, [_, _], out => by unfold decF; simp
 | n + 1, [_, _, _], out => by unfold decF; simp
 | n + 1, [_, _, _, _], out => by unfold decF; simp
 | n + 1, a :: b :: c :: d :: e :: t, out => by
  unfold decF
  split
  ·have := dec_five n t (out ++ [⟨a, b + 256 * c, d + 256 * e⟩])
   simp only [List.length_append, List.length_cons, List.length_nil] at this ⊢
   omega
  ·simp
theorem uget_lim (b : List Int) (hb : ∀ x ∈ b, 0 ≤ x ∧ x < 256) : (ugetR b).1.1.size ≤ 255 ∧ (ugetR b).1.2.1.length ≤ 8 ∧ (ugetR b).1.2.2.2.1.length ≤ 1024 ∧ 5 * (ugetR b).1.2.2.2.2.length ≤ b.length := by
 have hz : zeroU.1.size ≤ 255 ∧ zeroU.2.1.length ≤ 8 ∧ zeroU.2.2.2.1.length ≤ 1024 ∧ 5 * zeroU.2.2.2.2.length ≤ b.length := ⟨by decide, by decide, by decide, Nat.zero_le _⟩
 unfold ugetR
 dsimp only
 have ht := text_lim b hb 0 false
 generalize textR b 0 false = t at ht
 split
 ·exact hz
 have hp := numbers_lim b t.2.1 t.2.2 1 8
 generalize numbersR b t.2.1 t.2.2 1 8 = p at hp
 split
 ·exact hz
 generalize numR b p.2.2.1 p.2.2.2 1 = r
 split
 ·exact hz
 have hl := numbers_lim b r.2.1 r.2.2 2 1024
 generalize numbersR b r.2.1 r.2.2 2 1024 = l at hl
 split
 ·exact hz
 generalize numR b l.2.2.1 l.2.2.2 2 = n
 split
 ·exact hz
 have hx := take_len (b := b) (at_ := n.2.1) (bad := n.2.2) (n := wrap64 (5 * n.1))
 generalize takeR b n.2.1 n.2.2 (wrap64 (5 * n.1)) = x at hx
 split
 ·exact hz
 have hc := dec_five x.1.length x.1 []
 generalize decF x.1.length x.1 [] = c at hc
 split
 ·exact hz
 generalize (if x.2.2 = true then (0 : Int) else (b.length : Int) - x.2.1) = d
 split
 ·exact hz
 ·refine ⟨ht, hp, hl, ?_⟩
  dsimp only
  rw [List.length_map]
  simp at hc
  omega
theorem rows_len {α : Type} (row : Int → Bool → α × Int × Bool) : ∀ (n : Nat) (at_ : Int) (bad : Bool) (out : List α), (rowsR row n at_ bad out).1.length = out.length + n
 | 0, _, _, _ => rfl
 | n + 1, at_, bad, out => by
  unfold rowsR
  rw [rows_len row n, List.length_append, List.length_singleton]
  omega
theorem get_lim {α : Type} (row : List Int → Int → Bool → α × Int × Bool) (most : Int) (b : List Int) : (getR row most b).1.length ≤ most.toNat := by
 unfold getR
 split
 ·split
  ·dsimp only
   rw [rows_len, List.length_nil, Nat.zero_add]
   have : (headR most b).1 ≤ most ∨ (headR most b).1 ≤ 0 := by
    unfold headR
    split
    ·right; exact Int.le_refl _
    ·split
     ·right; exact Int.le_refl _
     ·left; dsimp only; omega
   omega
  ·exact Nat.zero_le _
 ·exact Nat.zero_le _
theorem unitsL_lim (b : List Int) : ∀ (n : Nat) (at_ : Int) (out : List SU), (unitsL b n at_ false out).1 = 0 → (unitsL b n at_ false out).2.1.length = out.length + n ∧ ∀ x ∈ (unitsL b n at_ false out).2.1, x ∈ out ∨ ∃ t : List Int, t.length ≤ b.length ∧ (∀ y ∈ t, y ∈ b) ∧ x = mkU (ugetR t).1
 | 0, _, out, _ => ⟨rfl, fun x hx => .inl hx⟩
 | n + 1, at_, out, h => by
  unfold unitsL at h ⊢
  split at h
  ·cases h
  ·split at h
   ·rename_i h2
    exact absurd h h2
   ·rename_i h1 h2
    rw [if_neg h1, if_neg h2]
    have ih := unitsL_lim b n _ _ h
    refine ⟨by rw [ih.1, List.length_append, List.length_singleton]; omega, fun x hx => ?_⟩
    rcases ih.2 x hx with h3 | h3
    ·rcases List.mem_append.1 h3 with h4 | h4
     ·exact .inl h4
     ·exact .inr ⟨_, runF_len, runF_mem, List.mem_singleton.1 h4⟩
    ·exact .inr h3
theorem units_lim (b : List Int) (hb : ∀ x ∈ b, 0 ≤ x ∧ x < 256) (hl : b.length ≤ 3000) : (unitsR b).1.length ≤ 8 ∧ BPure.Ok (unitsR b).1 := by
 have hz : ([] : List SU).length ≤ 8 ∧ BPure.Ok [] := ⟨by decide, fun x hx => by cases hx⟩
 unfold unitsR
 have hn := num1_lim b hb 0 false
 generalize numR b 0 false 1 = n at hn
 split
 ·exact hz
 split
 ·exact hz
 split
 ·exact hz
 split
 ·exact hz
 rename_i h1 h2 h3 h4
 have := unitsL_lim b n.1.toNat n.2.1 [] (Classical.not_not.1 h3)
 refine ⟨by dsimp only; rw [this.1, List.length_nil]; omega, fun x hx => ?_⟩
 rcases this.2 x hx with h5 | ⟨t, h5, h6, rfl⟩
 ·cases h5
 ·have := uget_lim t (fun y hy => hb y (h6 y hy))
  show (ugetR t).1.1.size ≤ 300 ∧ (ugetR t).1.2.1.length ≤ 20 ∧ (ugetR t).1.2.2.2.1.length ≤ 1100 ∧ (ugetR t).1.2.2.2.2.length ≤ 600
  omega
structure PLim (P : PD) : Prop where
 c : P.1.length ≤ 1024
 v : P.2.1.length ≤ 64
 b : P.2.2.1.length ≤ 32
 d : P.2.2.2.length ≤ 8
 ok : BPure.Ok P.2.2.2
theorem noP_lim : PLim noP := ⟨by decide, by decide, by decide, by decide, fun x hx => by cases hx⟩
theorem bodyOf_mem {l : List Int} : ∀ x ∈ bodyOf l, x ∈ l := fun x hx => List.mem_of_mem_take (List.mem_of_mem_drop hx)
theorem bodyOf_len {l : List Int} : (bodyOf l).length ≤ l.length := by unfold bodyOf; rw [zd, zt]; omega
theorem readF_lim (l : List Int) (hb : ∀ x ∈ l, 0 ≤ x ∧ x < 256) (hl : l.length ≤ 3000) : PLim (readF l).2 := by
 unfold readF
 split
 ·exact noP_lim
 split
 ·exact noP_lim
 split
 ·exact noP_lim
 split
 ·exact noP_lim
 have hc : ∀ x ∈ bodyOf l, 0 ≤ x ∧ x < 256 := fun x hx => hb x (bodyOf_mem x hx)
 have hcl := Nat.le_trans (bodyOf_len (l := l)) hl
 generalize bodyOf l = c at hc hcl
 unfold readC1
 split
 ·exact noP_lim
 split
 ·exact noP_lim
 unfold readC2
 split
 ·exact noP_lim
 split
 ·exact noP_lim
 unfold readC3
 split
 ·exact noP_lim
 split
 ·exact noP_lim
 unfold readC4
 split
 ·exact noP_lim
 split
 ·exact noP_lim
 split
 ·exact noP_lim
 have hu := units_lim (takeS c (takeS c (takeS c (takeS c 0 1).2.2 2).2.2 3).2.2 4).2.1 (fun x hx => hc x (takeS_mem x hx)) (Nat.le_trans takeS_len hcl)
 exact ⟨get_lim conR 1024 _, get_lim varR 64 _, get_lim blkR 32 _, hu.1, hu.2⟩
end Go.Proofs.YtdbfgfgbjheibaaDoor.Given
end

section
/- Instructions' bytes, over the texts of the container. -/
namespace Go.Proofs.YtdbfgfgbjheibaaDoor.BPure
open Go Go.RowKit Go.Proofs.YtdbfgfgbjheibaaDoor Go.Proofs.YtdbfgfgbjheibaaDoor.PBx Go.Proofs.YtdbfgfgbjheibaaDoor.Given Go.Proofs.YtdbfgfgbjheibaaDoorW.PrintWords Go.Proofs.YtdbfgfgbjheibaaDoorW.PrintLast Go.Proofs.YtdbfgfgbjheibaaDoorW.PrintMore
set_option linter.unusedVariables false
set_option linter.unusedSimpArgs false
def enc1 (i : S109) : List Int := [i.f0 % 256, i.f1 % 256, i.f1 / 256 % 256, i.f2 % 256, i.f2 / 256 % 256]
def encF : List S109 → List Int
 | [] => []
 | i :: t => enc1 i ++ encF t
def allR : List S109 → Bool
 | [] => true
 | i :: t => right3 i.f0 i.f1 i.f2 && allR t
theorem enc_len : ∀ l : List S109, (encF l).length = 5 * l.length
 | [] => rfl
 | i :: t => by simp only [encF, List.length_append, enc_len t, enc1, List.length_cons, List.length_nil]; omega
theorem enc_byte : ∀ l : List S109, ∀ x ∈ encF l, 0 ≤ x ∧ x < 256
 | [], x, h => by cases h
 | i :: t, x, h => by
  rcases List.mem_append.1 h with h | h
  ·unfold enc1 at h
   simp only [List.mem_cons, List.not_mem_nil, or_false] at h
   omega
  ·exact enc_byte t x h
theorem rd47_drop (l : List S109) (i : Nat) (h : i < l.length) : l.drop i = rd_T109 l (i : Int) :: l.drop (i + 1) := by
 unfold rd_T109
 rw [Int.toNat_natCast, List.getD_eq_getElem?_getD, List.getElem?_eq_getElem h, Option.getD_some]
 exact List.drop_eq_getElem_cons h
theorem enc_l0 (l : List S109) (hz : l.length ≤ 100000) : ∀ (d i k : Nat) (out : List Int), i + d = l.length → d < k → out.length ≤ 5 * i →
  code_Encode.l0 k out l (l.length : Int) (i : Int) = if allR (l.drop i) = true then some (out ++ encF (l.drop i), true) else some ([], false) := by
 intro d
 induction d with
 | zero =>
  intro i k out h1 h2 h3
  obtain ⟨k, rfl⟩ : ∃ m, k = m + 1 := ⟨k - 1, by omega⟩
  unfold code_Encode.l0
  rw [if_neg (by omega), List.drop_eq_nil_of_le (by omega)]
  simp [allR, encF]
 | succ d ih =>
  intro i k out h1 h2 h3
  obtain ⟨k, rfl⟩ : ∃ m, k = m + 1 := ⟨k - 1, by omega⟩
  unfold code_Encode.l0
  rw [if_pos (by omega), if_pos (by omega), if_pos (by omega), rd47_drop l i (by omega)]
  generalize rd_T109 l (i : Int) = x
  have hr : op_Right.f x.f0 x.f1 x.f2 = some (right3 x.f0 x.f1 x.f2) := right_some x.f0 x.f1 x.f2
  rw [hr]
  simp only [zP]
  rw [show encF (x :: l.drop (i + 1)) = enc1 x ++ encF (l.drop (i + 1)) from rfl]
  by_cases hq : right3 x.f0 x.f1 x.f2 = true
  ·rw [if_pos hq, show allR (x :: l.drop (i + 1)) = allR (l.drop (i + 1)) by show (right3 x.f0 x.f1 x.f2 && _) = _; rw [hq, Bool.true_and]]
   rw [if_pos (by simp only [List.length_cons, List.length_nil]; omega), w64 _ (by omega) (by omega)]
   have := ih (i + 1) k (out ++ enc1 x) (by omega) (by omega) (by simp only [List.length_append, enc1, List.length_cons, List.length_nil]; omega)
   rw [show ((i + 1 : Nat) : Int) = (i : Int) + 1 by omega] at this
   unfold enc1 at this ⊢
   rw [this, List.append_assoc]
  ·rw [if_neg hq, show allR (x :: l.drop (i + 1)) = false by show (right3 x.f0 x.f1 x.f2 && _) = _; simp [hq]]
   simp
theorem enc_is (l : List S109) (k : Nat) (hz : l.length ≤ 100000) (hk : l.length < k) : code_Encode.f k l = if allR l = true then some (encF l, true) else some ([], false) := by
 have := enc_l0 l hz l.length 0 k [] (by omega) hk (by simp)
 rw [List.drop_zero, List.nil_append] at this
 exact this
end Go.Proofs.YtdbfgfgbjheibaaDoor.BPure
end

section
/- What the document's octets put, over the texts of the container. -/
namespace Go.Proofs.YtdbfgfgbjheibaaDoor.BPure
open Go Go.RowKit Go.Proofs.YtdbfgfgbjheibaaDoor Go.Proofs.YtdbfgfgbjheibaaDoor.PBx Go.Proofs.YtdbfgfgbjheibaaDoor.Given Go.Proofs.YtdbfgfgbjheibaaDoorW.PrintWords Go.Proofs.YtdbfgfgbjheibaaDoorW.PrintLast Go.Proofs.YtdbfgfgbjheibaaDoorW.PrintMore
set_option linter.unusedVariables false
set_option linter.unusedSimpArgs false
theorem bytesOf_length (s : ByteArray) : (bytesOf s).length = s.size := by simp [bytesOf]
end Go.Proofs.YtdbfgfgbjheibaaDoor.BPure
end

section
/- Units, plainly, over the texts of the container: whether they fit. -/
namespace Go.Proofs.YtdbfgfgbjheibaaDoor.BPure
open Go Go.RowKit Go.Proofs.YtdbfgfgbjheibaaDoor Go.Proofs.YtdbfgfgbjheibaaDoor.PBx Go.Proofs.YtdbfgfgbjheibaaDoor.Given Go.Proofs.YtdbfgfgbjheibaaDoorW.PrintWords Go.Proofs.YtdbfgfgbjheibaaDoorW.PrintLast Go.Proofs.YtdbfgfgbjheibaaDoorW.PrintMore
set_option linter.unusedVariables false
set_option linter.unusedSimpArgs false
/-- From some rounds on it tells r. -/
def Tells {α : Type} (g : Nat → Option α) (r : α) : Prop := ∃ k0, ∀ k, k0 ≤ k → g k = some r
theorem Tells.of_mono {α : Type} {g : Nat → Option α} {r : α} {k0 : Nat} (hm : ∀ k, LeO (g k) (g (k + 1))) (h : g k0 = some r) : Tells g r := ⟨k0, fun k hk => by
 obtain ⟨d, rfl⟩ : ∃ d, k = k0 + d := ⟨k - k0, by omega⟩
 induction d with
 | zero => exact h
 | succ d ih => exact hm (k0 + d) r (ih (by omega))⟩
theorem Tells.get {α : Type} {g : Nat → Option α} {r : α} (h : Tells g r) : ∃ k, g k = some r := by
 obtain ⟨k, hk⟩ := h
 exact ⟨k, hk k (z5 _)⟩
theorem rd_drop (l : List Int) (i : Nat) (h : i < l.length) : l.drop i = rd l (i : Int) :: l.drop (i + 1) := by
 unfold rd
 rw [Int.toNat_natCast, List.getD_eq_getElem?_getD, List.getElem?_eq_getElem h, Option.getD_some]
 exact List.drop_eq_getElem_cons h
def byteL : List Int → Bool
 | [] => true
 | x :: t => (decide (0 ≤ x) && decide (x ≤ 255)) && byteL t
theorem byteL_cons {x : Int} {t : List Int} (h : ¬ x < 0) (h2 : ¬ x > 255) : byteL (x :: t) = byteL t := by
 show ((decide (0 ≤ x) && decide (x ≤ 255)) && byteL t) = byteL t
 rw [decide_eq_true (by omega), decide_eq_true (by omega)]; rfl
theorem byteL_low {x : Int} {t : List Int} (h : x < 0) : byteL (x :: t) = false := by
 show ((decide (0 ≤ x) && decide (x ≤ 255)) && byteL t) = false
 rw [decide_eq_false (by omega)]; rfl
theorem byteL_high {x : Int} {t : List Int} (h : x > 255) : byteL (x :: t) = false := by
 show ((decide (0 ≤ x) && decide (x ≤ 255)) && byteL t) = false
 rw [decide_eq_false (show ¬ x ≤ 255 by omega), Bool.and_false]; rfl
theorem bytes_l0 (P : List Int) (hz : P.length ≤ 100000) : ∀ (d i k : Nat), i + d = P.length → d < k → unit_bytes.l0 k P (P.length : Int) (i : Int) = some (byteL (P.drop i)) := by
 intro d
 induction d with
 | zero =>
  intro i k h1 h2
  obtain ⟨k, rfl⟩ : ∃ m, k = m + 1 := ⟨k - 1, by omega⟩
  unfold unit_bytes.l0
  rw [if_neg (by omega), List.drop_eq_nil_of_le (by omega)]; rfl
 | succ d ih =>
  intro i k h1 h2
  obtain ⟨k, rfl⟩ : ∃ m, k = m + 1 := ⟨k - 1, by omega⟩
  unfold unit_bytes.l0
  rw [if_pos (by omega), if_pos (by omega), if_pos (by omega), rd_drop P i (by omega)]
  generalize rd P (i : Int) = x
  by_cases h : x < 0
  ·rw [if_pos h, byteL_low h]
  ·rw [if_neg h]
   by_cases h' : x > 255
   ·rw [if_pos h', byteL_high h']
   ·rw [if_neg h', byteL_cons h h', w64 _ (by omega) (by omega)]
    exact ih (i + 1) k (by omega) (by omega)
theorem bytes_is (P : List Int) (hz : P.length ≤ 100000) (k : Nat) (hk : P.length < k) : unit_bytes.f k P = some (byteL P) := bytes_l0 P hz P.length 0 k (by omega) hk
/-! ### Fits -/
def fitsF (n : ByteArray) (P : List Int) (R : Int) (L : List Int) (C : List S109) : Bool := decide (n.size ≤ 255) && decide (P.length ≤ 8) && decide (L.length ≤ 1024) && decide (C.length ≤ 16384) && allR C && byteL P && byteL L && (decide (0 ≤ R) && decide (R ≤ 255))
theorem allR_cons (x : S109) (t : List S109) : allR (x :: t) = (right3 x.f0 x.f1 x.f2 && allR t) := rfl
theorem fits_l0 (n : ByteArray) (P : List Int) (R : Int) (L : List Int) (C : List S109) (hP : P.length ≤ 10000) (hL : L.length ≤ 10000) (hC : C.length ≤ 10000) : ∀ (d i k : Nat), i + d = C.length → d + 10010 < k →
  unit_Fits.l0 k C (C.length : Int) (i : Int) n P R L C = some (allR (C.drop i) && byteL P && byteL L && (decide (0 ≤ R) && decide (R ≤ 255))) := by
 intro d
 induction d with
 | zero =>
  intro i k h1 h2
  obtain ⟨k, rfl⟩ : ∃ m, k = m + 1 := ⟨k - 1, by omega⟩
  unfold unit_Fits.l0
  rw [if_neg (by omega), List.drop_eq_nil_of_le (by omega), bytes_is P (by omega) k (by omega), bytes_is L (by omega) k (by omega), bytes_is [R] (by simp) k (by simp; omega)]
  simp only [zP]
  rw [show allR ([] : List S109) = true from rfl, show byteL [R] = (decide (0 ≤ R) && decide (R ≤ 255)) by simp [byteL]]
  cases byteL P <;> cases byteL L <;> simp
 | succ d ih =>
  intro i k h1 h2
  obtain ⟨k, rfl⟩ : ∃ m, k = m + 1 := ⟨k - 1, by omega⟩
  unfold unit_Fits.l0
  rw [if_pos (by omega), if_pos (by omega), if_pos (by omega), rd47_drop C i (by omega)]
  generalize rd_T109 C (i : Int) = x
  have hr : op_Right.f x.f0 x.f1 x.f2 = some (right3 x.f0 x.f1 x.f2) := right_some x.f0 x.f1 x.f2
  rw [hr, zP, allR_cons]
  by_cases hq : right3 x.f0 x.f1 x.f2 = true
  ·rw [if_pos hq, hq, Bool.true_and, w64 _ (by omega) (by omega)]
   exact ih (i + 1) k (by omega) (by omega)
  ·rw [if_neg hq, show right3 x.f0 x.f1 x.f2 = false by simpa using hq]; simp
theorem fits_is (n : ByteArray) (P : List Int) (R : Int) (L : List Int) (C : List S109) (hP : P.length ≤ 10000) (hL : L.length ≤ 10000) (hC : C.length ≤ 10000) (k : Nat) (hk : 20100 ≤ k) : unit_Fits.f k n P R L C = some (fitsF n P R L C) := by
 obtain ⟨k, rfl⟩ : ∃ m, k = m + 1 := ⟨k - 1, by omega⟩
 have h := fits_l0 n P R L C hP hL hC C.length 0 k (by omega) (by omega)
 rw [List.drop_zero] at h
 unfold unit_Fits.f fitsF
 have hj : ∀ b : Bool, unit_Fits.j0 (k + 1) b n P R L C = if b = true then some false else unit_Fits.l0 k C (C.length : Int) 0 n P R L C := fun b => rfl
 simp only [hj]
 rw [show ((0 : Nat) : Int) = 0 from rfl] at h
 rw [h]
 by_cases h1 : (n.size : Int) > 255
 ·rw [if_pos h1, if_pos trivial, decide_eq_false (show ¬ n.size ≤ 255 by omega)]; simp
 ·rw [if_neg h1, decide_eq_true (show n.size ≤ 255 by omega)]
  by_cases h2 : (P.length : Int) > 8
  ·rw [if_pos h2, if_pos trivial, decide_eq_false (show ¬ P.length ≤ 8 by omega)]; simp
  ·rw [if_neg h2, decide_eq_true (show P.length ≤ 8 by omega)]
   by_cases h3 : (L.length : Int) > 1024
   ·rw [if_pos h3, if_pos trivial, decide_eq_false (show ¬ L.length ≤ 1024 by omega)]; simp
   ·rw [if_neg h3, decide_eq_true (show L.length ≤ 1024 by omega), decide_eq_true (show C.length ≤ 16384 by omega), decide_eq_false (show ¬ (C.length : Int) > 16384 by omega), if_neg (by simp)]
    simp
end Go.Proofs.YtdbfgfgbjheibaaDoor.BPure
end

section
/- Units, plainly, over the texts of the container: their bytes. -/
namespace Go.Proofs.YtdbfgfgbjheibaaDoor.BPure
open Go Go.RowKit Go.Proofs.YtdbfgfgbjheibaaDoor Go.Proofs.YtdbfgfgbjheibaaDoor.PBx Go.Proofs.YtdbfgfgbjheibaaDoor.Given Go.Proofs.YtdbfgfgbjheibaaDoorW.PrintWords Go.Proofs.YtdbfgfgbjheibaaDoorW.PrintLast Go.Proofs.YtdbfgfgbjheibaaDoorW.PrintMore
set_option linter.unusedVariables false
set_option linter.unusedSimpArgs false
def low (l : List Int) : List Int := l.map (· % 256)
theorem low_len (l : List Int) : (low l).length = l.length := by simp [low]
theorem list_l0 (P : List Int) (hz : P.length ≤ 100000) : ∀ (d i k : Nat) (x0 : List Int), i + d = P.length → d < k → x0.length + d ≤ 10000000 →
  unit_list.l0 k x0 P (P.length : Int) (i : Int) = some (x0 ++ low (P.drop i)) := by
 intro d
 induction d with
 | zero =>
  intro i k x0 h1 h2 h3
  obtain ⟨k, rfl⟩ : ∃ m, k = m + 1 := ⟨k - 1, by omega⟩
  unfold unit_list.l0
  rw [if_neg (by omega), List.drop_eq_nil_of_le (by omega)]; simp [low]
 | succ d ih =>
  intro i k x0 h1 h2 h3
  obtain ⟨k, rfl⟩ : ∃ m, k = m + 1 := ⟨k - 1, by omega⟩
  unfold unit_list.l0
  rw [if_pos (by omega), if_pos (by omega), if_pos (by omega), if_pos (by omega), rd_drop P i (by omega), w64 _ (by omega) (by omega)]
  have := ih (i + 1) k (x0 ++ [rd P (i : Int) % 256]) (by omega) (by omega) (by simp only [List.length_append, List.length_cons, List.length_nil]; omega)
  rw [show ((i + 1 : Nat) : Int) = (i : Int) + 1 by omega] at this
  rw [this, List.append_assoc]
  rfl
theorem list_is (x0 : List Int) (m : Int) (P : List Int) (hz : P.length ≤ 100000) (hx : x0.length ≤ 1000000) (k : Nat) (hk : P.length < k) : unit_list.f k x0 m P = some (x0 ++ le (mx 0 (mn m 8)).toNat (P.length : Int) ++ low P) := by
 unfold unit_list.f octet_Put.f
 rw [if_pos (by omega), zP]
 have h8 : (mx 0 (mn m 8)).toNat ≤ 8 := by unfold mx mn; split <;> split <;> omega
 exact list_l0 P hz P.length 0 k _ (by omega) hk (by rw [List.length_append, le_length]; omega)
/-- A unit's bytes. -/
def putB (n : ByteArray) (P : List Int) (R : Int) (L : List Int) (C : List S109) : List Int :=
 le 1 ((min n.size 255 : Nat) : Int) ++ bytesOf (textOf n) ++ le 1 (P.length : Int) ++ low P ++ le 1 R ++ le 2 (L.length : Int) ++ low L ++ le 2 (C.length : Int) ++ encF C
theorem text_len (n : ByteArray) : (bytesOf (textOf n)).length ≤ 255 := by
 rw [bytesOf_length]
 unfold textOf
 rw [ByteArray.size_extract]
 omega
theorem m1 : (mx 0 (mn 1 8)).toNat = 1 := by decide
theorem m2 : (mx 0 (mn 2 8)).toNat = 2 := by decide
theorem fits_allR {n : ByteArray} {P : List Int} {R : Int} {L : List Int} {C : List S109} (h : fitsF n P R L C = true) : n.size ≤ 255 ∧ P.length ≤ 8 ∧ L.length ≤ 1024 ∧ C.length ≤ 16384 ∧ allR C = true ∧ byteL P = true ∧ byteL L = true ∧ 0 ≤ R ∧ R ≤ 255 := by
 unfold fitsF at h
 simp only [Bool.and_eq_true, decide_eq_true_eq] at h
 obtain ⟨⟨⟨⟨⟨⟨⟨a, b⟩, c⟩, d⟩, e⟩, f⟩, g⟩, i, j⟩ := h
 exact ⟨a, b, c, d, e, f, g, i, j⟩
theorem put_is (n : ByteArray) (P : List Int) (R : Int) (L : List Int) (C : List S109) (hn : n.size ≤ 1000) (hP : P.length ≤ 10000) (hL : L.length ≤ 10000) (hC : C.length ≤ 10000) (k : Nat) (hk : 20100 ≤ k) :
  unit_Put.f k n P R L C = if fitsF n P R L C = true then some (putB n P R L C, true) else some ([], false) := by
 unfold unit_Put.f
 rw [fits_is n P R L C hP hL hC k hk, zP]
 by_cases hf : fitsF n P R L C = true
 ·rw [if_pos hf, if_pos hf]
  have hR := (fits_allR hf).2.2.2.2.1
  have ht := text_len n
  unfold octet_Text.f
  rw [if_pos (by simp; omega), zP, list_is _ 1 P (by omega) (by simp only [List.length_append, le_length, List.length_nil]; omega) k (by omega), zP, m1]
  unfold octet_Put.f
  rw [if_pos (by simp only [List.length_append, le_length, List.length_nil, low_len]; omega), zP, list_is _ 2 L (by omega) (by simp only [List.length_append, le_length, List.length_nil, low_len, m1]; omega) k (by omega), zP, if_pos (by simp only [List.length_append, le_length, List.length_nil, low_len, m1, m2]; omega), zP, enc_is C k (by omega) (by omega), if_pos hR, zP, if_pos (by simp only [List.length_append, le_length, List.length_nil, low_len, m1, m2, enc_len]; omega)]
  rw [m1, m2, List.nil_append]
  rfl
 ·rw [if_neg hf, if_neg (by simp at hf; simp [hf])]
/-! ### The document's -/
end Go.Proofs.YtdbfgfgbjheibaaDoor.BPure
end

section
/- Tables' bytes, plainly, over the texts of the container. -/
namespace Go.Proofs.YtdbfgfgbjheibaaDoor.BPure.Tab
open Go Go.RowKit Go.Proofs.YtdbfgfgbjheibaaDoor Go.Proofs.YtdbfgfgbjheibaaDoor.PBx Go.Proofs.YtdbfgfgbjheibaaDoor.Given Go.Proofs.YtdbfgfgbjheibaaDoorW.PrintWords Go.Proofs.YtdbfgfgbjheibaaDoorW.PrintLast Go.Proofs.YtdbfgfgbjheibaaDoorW.PrintMore Go.Proofs.YtdbfgfgbjheibaaDoor.BPure
set_option linter.unusedVariables false
set_option linter.unusedSimpArgs false
abbrev TC := S68
abbrev TV := S41
abbrev TB := S43
theorem bytes_len (s : ByteArray) : (bytesOf s).length = s.size := by simp [bytesOf]
theorem text_all (s : ByteArray) (h : s.size ≤ 255) : textOf s = s := by
 unfold textOf
 rw [Nat.min_eq_left h]
 simp
variable {α : Type} {row : List Int → Int → Bool → α × Int × Bool} {fit : α → Bool} {wf : α → Prop} {enc : α → List Int}
def encL (enc : α → List Int) (l : List α) : List Int := (l.map enc).flatten
theorem encL_cons (enc : α → List Int) (x : α) (l : List α) : encL enc (x :: l) = enc x ++ encL enc l := by simp [encL]
/-- What is put of a table. -/
def putM (most : Nat) (fit : α → Bool) (enc : α → List Int) (l : List α) : List Int × Bool := if l.length > most then ([], false) else if l.all fit = true then (le 2 (l.length : Int) ++ encL enc l, true) else ([], false)
def small (n : Int) : Bool := decide (0 ≤ n) && decide (n ≤ 255)
theorem small_iff {n : Int} : small n = true ↔ 0 ≤ n ∧ n ≤ 255 := by unfold small; simp
def in64 (n : Int) : Prop := -9223372036854775808 ≤ n ∧ n ≤ 9223372036854775807
def conFit (x : TC) : Bool := small x.f0
def conWf (x : TC) : Prop := in64 x.f1
def conEnc (x : TC) : List Int := le 1 x.f0 ++ le 8 x.f1
def encT (s : ByteArray) : List Int := le 1 ((s.size : Nat) : Int) ++ bytesOf s
def blkFit (x : TB) : Bool := decide (x.f0.size ≤ 255) && small x.f1
def blkEnc (x : TB) : List Int := encT x.f0 ++ le 1 x.f1
def varFit (x : TV) : Bool := decide (x.f0.size ≤ 255) && (small x.f1 && (small x.f2 && small x.f3))
def varWf (x : TV) : Prop := in64 x.f4
def varEnc (x : TV) : List Int := encT x.f0 ++ le 1 x.f1 ++ le 1 x.f2 ++ le 1 x.f3 ++ le 8 x.f4
theorem encT_len (s : ByteArray) : (encT s).length = 1 + s.size := by unfold encT; rw [List.length_append, le_length, bytes_len]
theorem put1 (l : List Int) (v : Int) (hl : l.length ≤ 1000000000) : octet_Put.f l 1 v = some (l ++ le 1 v) := by
 unfold octet_Put.f
 rw [if_pos hl, show (mx 0 (mn 1 8)).toNat = 1 by decide]
theorem put8 (l : List Int) (v : Int) (hl : l.length ≤ 1000000000) : octet_Put.f l 8 v = some (l ++ le 8 v) := by
 unfold octet_Put.f
 rw [if_pos hl, show (mx 0 (mn 8 8)).toNat = 8 by decide]
theorem put2 (v : Int) : octet_Put.f [] 2 v = some (le 2 v) := by
 unfold octet_Put.f
 rw [if_pos (by simp), show (mx 0 (mn 2 8)).toNat = 2 by decide, List.nil_append]
theorem textT (l : List Int) (s : ByteArray) (hl : l.length ≤ 999999000) (hs : s.size ≤ 255) : octet_Text.f l s = some (l ++ encT s) := by
 unfold octet_Text.f encT
 rw [if_pos ⟨hl, by omega⟩, text_all s hs, Nat.min_eq_left hs, List.append_assoc]
theorem small_l (L : List Int) (hl : L.length ≤ 10) : ∀ (d i k : Nat), i + d = L.length → d < k → tab_small.l0 k L (L.length : Int) (i : Int) = some ((L.drop i).all small) := by
 intro d
 induction d with
 | zero =>
  intro i k h1 h2
  obtain ⟨k, rfl⟩ : ∃ m, k = m + 1 := ⟨k - 1, by omega⟩
  rw [tab_small.l0, if_neg (by omega), List.drop_eq_nil_of_le (by omega)]
  rfl
 | succ d ih =>
  intro i k h1 h2
  obtain ⟨k, rfl⟩ : ∃ m, k = m + 1 := ⟨k - 1, by omega⟩
  have hil : i < L.length := by omega
  have e : rd L (i : Int) = L[i] := by unfold rd; rw [Int.toNat_natCast, List.getD_eq_getElem?_getD, List.getElem?_eq_getElem hil]; rfl
  have ew : wrap64 ((i : Int) + 1) = ((i + 1 : Nat) : Int) := by unfold wrap64; omega
  rw [tab_small.l0, if_pos (by omega), if_pos (by omega), if_pos (by omega), e, List.drop_eq_getElem_cons hil, List.all_cons, ew]
  by_cases c1 : L[i] < 0
  ·rw [if_pos c1, show small L[i] = false by unfold small; simp; omega]; rfl
  ·rw [if_neg c1]
   by_cases c2 : L[i] > 255
   ·rw [if_pos c2, show small L[i] = false by unfold small; simp; omega]; rfl
   ·rw [if_neg c2, ih (i + 1) k (by omega) (by omega), small_iff.2 ⟨by omega, by omega⟩]
    rfl
theorem small_f (L : List Int) (hl : L.length ≤ 10) (k : Nat) (hk : 20 ≤ k) : tab_small.f k L = some (L.all small) := by
 unfold tab_small.f
 have := small_l L hl L.length 0 k (by omega) (by omega)
 simpa using this
theorem wl (i : Nat) (h : i < 100000) : wrap64 ((i : Int) + 1) = ((i + 1 : Nat) : Int) := by unfold wrap64; omega
theorem encL_bound {α : Type} (enc : α → List Int) (n : Nat) : ∀ (l : List α), (∀ x ∈ l, (enc x).length ≤ n) → (encL enc l).length ≤ n * l.length
 | [], _ => by simp [encL]
 | x :: l, h => by
  have h1 := h x (by simp)
  have h2 := encL_bound enc n l (fun y hy => h y (by simp [hy]))
  rw [encL_cons, List.length_append, List.length_cons, Nat.mul_add]
  omega
theorem putM_len {α : Type} (most : Nat) (fit : α → Bool) (enc : α → List Int) (hn : ∀ x, fit x = true → (enc x).length ≤ 300) (l : List α) : (putM most fit enc l).1.length ≤ 2 + 300 * most := by
 unfold putM
 split
 ·simp
 ·split
  ·rename_i h1 h2
   have h3 := encL_bound enc 300 l (fun x hx => hn x (List.all_eq_true.1 h2 x hx))
   rw [List.length_append, le_length]
   have : 300 * l.length ≤ 300 * most := Nat.mul_le_mul_left _ (by omega)
   omega
  ·simp

end Go.Proofs.YtdbfgfgbjheibaaDoor.BPure.Tab
end

section
/- Tables' printed functions, over the texts of the container. -/
namespace Go.Proofs.YtdbfgfgbjheibaaDoor.BPure.Tab
open Go Go.RowKit Go.Proofs.YtdbfgfgbjheibaaDoor Go.Proofs.YtdbfgfgbjheibaaDoor.PBx Go.Proofs.YtdbfgfgbjheibaaDoor.Given Go.Proofs.YtdbfgfgbjheibaaDoorW.PrintWords Go.Proofs.YtdbfgfgbjheibaaDoorW.PrintLast Go.Proofs.YtdbfgfgbjheibaaDoorW.PrintMore Go.Proofs.YtdbfgfgbjheibaaDoor.BPure
set_option linter.unusedVariables false
set_option linter.unusedSimpArgs false
theorem blk_rd (l : List TB) (i : Nat) (h : i < l.length) : rd_T43 l (i : Int) = l[i] := by
 unfold rd_T43
 rw [Int.toNat_natCast, List.getD_eq_getElem?_getD, List.getElem?_eq_getElem h]
 rfl
theorem blk_fit (x : TB) (k : Nat) (hk : 20 ≤ k) : tab_PutBlocks_1.f k x.f0 x.f1 = some (blkFit x) := by
 unfold tab_PutBlocks_1.f tab_named.f blkFit
 simp only [zP]
 have e : decide ((x.f0.size : Int) ≤ 255) = decide (x.f0.size ≤ 255) := decide_eq_decide.2 (by omega)
 rw [e]
 by_cases h : x.f0.size ≤ 255
 ·rw [decide_eq_true h, if_pos rfl, small_f [x.f1] (by simp) k hk]
  simp
 ·rw [decide_eq_false h]; simp
theorem blk_put (x : TB) (l : List Int) (hl : l.length ≤ 1000000) (hf : blkFit x = true) : tab_PutBlocks_2.f l x.f0 x.f1 = some (l ++ blkEnc x) := by
 unfold blkFit at hf
 simp only [Bool.and_eq_true, decide_eq_true_eq] at hf
 unfold tab_PutBlocks_2.f blkEnc
 rw [textT l x.f0 (by omega) hf.1]
 simp only [zP]
 rw [put1 _ x.f1 (by rw [List.length_append, encT_len]; omega), List.append_assoc]
 rfl
theorem blk_len (x : TB) (h : blkFit x = true) : (blkEnc x).length ≤ 300 := by
 unfold blkFit at h
 simp only [Bool.and_eq_true, decide_eq_true_eq] at h
 unfold blkEnc
 rw [List.length_append, encT_len, le_length]
 omega
theorem blk_loop (l : List TB) (hl : l.length ≤ 32) : ∀ (d i k : Nat) (o : List Int), i + d = l.length → 400 + d < k → o.length ≤ 2 + 300 * i → api_Block_53.l0 k o l (l.length : Int) (i : Int) = some (if (l.drop i).all blkFit = true then (o ++ encL blkEnc (l.drop i), true) else ([], false)) := by
 intro d
 induction d with
 | zero =>
  intro i k o h1 h2 h3
  obtain ⟨k, rfl⟩ : ∃ m, k = m + 1 := ⟨k - 1, by omega⟩
  rw [api_Block_53.l0, if_neg (by omega), List.drop_eq_nil_of_le (by omega)]
  simp [encL]
 | succ d ih =>
  intro i k o h1 h2 h3
  obtain ⟨k, rfl⟩ : ∃ m, k = m + 1 := ⟨k - 1, by omega⟩
  have hil : i < l.length := by omega
  rw [api_Block_53.l0, if_pos (by omega), if_pos (by omega), if_pos (by omega), blk_rd l i hil, blk_fit l[i] k (by omega)]
  simp only [zP]
  by_cases hf : blkFit l[i] = true
  ·rw [if_pos hf, blk_put l[i] o (by omega) hf]
   simp only [zP]
   rw [wl i (by omega), ih (i + 1) k _ (by omega) (by omega) (by rw [List.length_append]; have := blk_len l[i] hf; omega)]
   rw [List.drop_eq_getElem_cons hil, List.all_cons, hf, Bool.true_and, encL_cons, List.append_assoc]
  ·rw [if_neg hf]
   rw [List.drop_eq_getElem_cons hil, List.all_cons, show blkFit l[i] = false by simpa using hf]
   rfl
theorem blk_prog (l : List TB) (k : Nat) (hk : 2000 ≤ k) : tab_PutBlocks.f k l = some (putM 32 blkFit blkEnc l) := by
 unfold tab_PutBlocks.f api_Block_53.f putM
 by_cases h : l.length > 32
 ·rw [if_pos (by omega), if_pos h]; rfl
 ·rw [if_neg (by omega), if_neg h, put2]
  simp only [zP]
  have := blk_loop l (by omega) l.length 0 k (le 2 (l.length : Int)) (by omega) (by omega) (by rw [le_length]; omega)
  rw [List.drop_zero] at this
  rw [show (0 : Int) = ((0 : Nat) : Int) from rfl, this]
  simp only [zP]
theorem con_rd (l : List TC) (i : Nat) (h : i < l.length) : rd_T68 l (i : Int) = l[i] := by
 unfold rd_T68
 rw [Int.toNat_natCast, List.getD_eq_getElem?_getD, List.getElem?_eq_getElem h]
 rfl
theorem con_fit (x : TC) (k : Nat) (hk : 20 ≤ k) : tab_PutConsts_1.f k x.f0 x.f1 = some (conFit x) := by
 unfold tab_PutConsts_1.f conFit
 rw [small_f [x.f0] (by simp) k hk]
 simp
theorem con_put (x : TC) (l : List Int) (hl : l.length ≤ 1000000) (hf : conFit x = true) : tab_PutConsts_2.f l x.f0 x.f1 = some (l ++ conEnc x) := by
 unfold tab_PutConsts_2.f conEnc
 rw [put1 l x.f0 (by omega)]
 simp only [zP]
 rw [put8 _ x.f1 (by rw [List.length_append, le_length]; omega), List.append_assoc]
 rfl
theorem con_len (x : TC) (_ : conFit x = true) : (conEnc x).length ≤ 300 := by unfold conEnc; simp [le_length]
theorem con_loop (l : List TC) (hl : l.length ≤ 1024) : ∀ (d i k : Nat) (o : List Int), i + d = l.length → 400 + d < k → o.length ≤ 2 + 300 * i → api_Const_44.l0 k o l (l.length : Int) (i : Int) = some (if (l.drop i).all conFit = true then (o ++ encL conEnc (l.drop i), true) else ([], false)) := by
 intro d
 induction d with
 | zero =>
  intro i k o h1 h2 h3
  obtain ⟨k, rfl⟩ : ∃ m, k = m + 1 := ⟨k - 1, by omega⟩
  rw [api_Const_44.l0, if_neg (by omega), List.drop_eq_nil_of_le (by omega)]
  simp [encL]
 | succ d ih =>
  intro i k o h1 h2 h3
  obtain ⟨k, rfl⟩ : ∃ m, k = m + 1 := ⟨k - 1, by omega⟩
  have hil : i < l.length := by omega
  rw [api_Const_44.l0, if_pos (by omega), if_pos (by omega), if_pos (by omega), con_rd l i hil, con_fit l[i] k (by omega)]
  simp only [zP]
  by_cases hf : conFit l[i] = true
  ·rw [if_pos hf, con_put l[i] o (by omega) hf]
   simp only [zP]
   rw [wl i (by omega), ih (i + 1) k _ (by omega) (by omega) (by rw [List.length_append]; have := con_len l[i] hf; omega)]
   rw [List.drop_eq_getElem_cons hil, List.all_cons, hf, Bool.true_and, encL_cons, List.append_assoc]
  ·rw [if_neg hf]
   rw [List.drop_eq_getElem_cons hil, List.all_cons, show conFit l[i] = false by simpa using hf]
   rfl
theorem con_prog (l : List TC) (k : Nat) (hk : 2000 ≤ k) : tab_PutConsts.f k l = some (putM 1024 conFit conEnc l) := by
 unfold tab_PutConsts.f api_Const_44.f putM
 by_cases h : l.length > 1024
 ·rw [if_pos (by omega), if_pos h]; rfl
 ·rw [if_neg (by omega), if_neg h, put2]
  simp only [zP]
  have := con_loop l (by omega) l.length 0 k (le 2 (l.length : Int)) (by omega) (by omega) (by rw [le_length]; omega)
  rw [List.drop_zero] at this
  rw [show (0 : Int) = ((0 : Nat) : Int) from rfl, this]
  simp only [zP]
theorem var_rd (l : List TV) (i : Nat) (h : i < l.length) : rd_T41 l (i : Int) = l[i] := by
 unfold rd_T41
 rw [Int.toNat_natCast, List.getD_eq_getElem?_getD, List.getElem?_eq_getElem h]
 rfl
theorem var_fit (x : TV) (k : Nat) (hk : 20 ≤ k) : tab_PutVars_1.f k x.f0 x.f1 x.f2 x.f3 x.f4 = some (varFit x) := by
 unfold tab_PutVars_1.f tab_named.f varFit
 simp only [zP]
 have e : decide ((x.f0.size : Int) ≤ 255) = decide (x.f0.size ≤ 255) := decide_eq_decide.2 (by omega)
 rw [e]
 by_cases h : x.f0.size ≤ 255
 ·rw [decide_eq_true h, if_pos rfl, small_f [x.f1, x.f2, x.f3] (by simp) k hk]
  simp
 ·rw [decide_eq_false h]; simp
theorem var_put (x : TV) (l : List Int) (hl : l.length ≤ 1000000) (hf : varFit x = true) : tab_PutVars_2.f l x.f0 x.f1 x.f2 x.f3 x.f4 = some (l ++ varEnc x) := by
 unfold varFit at hf
 simp only [Bool.and_eq_true, decide_eq_true_eq] at hf
 unfold tab_PutVars_2.f varEnc
 rw [textT l x.f0 (by omega) hf.1]
 simp only [zP]
 rw [put1 _ x.f1 (by simp only [List.length_append, encT_len]; omega)]
 simp only [zP]
 rw [put1 _ x.f2 (by simp only [List.length_append, encT_len, le_length]; omega)]
 simp only [zP]
 rw [put1 _ x.f3 (by simp only [List.length_append, encT_len, le_length]; omega)]
 simp only [zP]
 rw [put8 _ x.f4 (by simp only [List.length_append, encT_len, le_length]; omega)]
 simp only [zP, List.append_assoc]
theorem var_len (x : TV) (h : varFit x = true) : (varEnc x).length ≤ 300 := by
 unfold varFit at h
 simp only [Bool.and_eq_true, decide_eq_true_eq] at h
 unfold varEnc
 simp only [List.length_append, encT_len, le_length]
 omega
theorem var_loop (l : List TV) (hl : l.length ≤ 64) : ∀ (d i k : Nat) (o : List Int), i + d = l.length → 400 + d < k → o.length ≤ 2 + 300 * i → api_Var_48.l0 k o l (l.length : Int) (i : Int) = some (if (l.drop i).all varFit = true then (o ++ encL varEnc (l.drop i), true) else ([], false)) := by
 intro d
 induction d with
 | zero =>
  intro i k o h1 h2 h3
  obtain ⟨k, rfl⟩ : ∃ m, k = m + 1 := ⟨k - 1, by omega⟩
  rw [api_Var_48.l0, if_neg (by omega), List.drop_eq_nil_of_le (by omega)]
  simp [encL]
 | succ d ih =>
  intro i k o h1 h2 h3
  obtain ⟨k, rfl⟩ : ∃ m, k = m + 1 := ⟨k - 1, by omega⟩
  have hil : i < l.length := by omega
  rw [api_Var_48.l0, if_pos (by omega), if_pos (by omega), if_pos (by omega), var_rd l i hil, var_fit l[i] k (by omega)]
  simp only [zP]
  by_cases hf : varFit l[i] = true
  ·rw [if_pos hf, var_put l[i] o (by omega) hf]
   simp only [zP]
   rw [wl i (by omega), ih (i + 1) k _ (by omega) (by omega) (by rw [List.length_append]; have := var_len l[i] hf; omega)]
   rw [List.drop_eq_getElem_cons hil, List.all_cons, hf, Bool.true_and, encL_cons, List.append_assoc]
  ·rw [if_neg hf]
   rw [List.drop_eq_getElem_cons hil, List.all_cons, show varFit l[i] = false by simpa using hf]
   rfl
theorem var_prog (l : List TV) (k : Nat) (hk : 2000 ≤ k) : tab_PutVars.f k l = some (putM 64 varFit varEnc l) := by
 unfold tab_PutVars.f api_Var_48.f putM
 by_cases h : l.length > 64
 ·rw [if_pos (by omega), if_pos h]; rfl
 ·rw [if_neg (by omega), if_neg h, put2]
  simp only [zP]
  have := var_loop l (by omega) l.length 0 k (le 2 (l.length : Int)) (by omega) (by omega) (by rw [le_length]; omega)
  rw [List.drop_zero] at this
  rw [show (0 : Int) = ((0 : Nat) : Int) from rfl, this]
  simp only [zP]
end Go.Proofs.YtdbfgfgbjheibaaDoor.BPure.Tab
end

section
/- Units, plainly, over the texts of the container: whether two are the same. -/
namespace Go.Proofs.YtdbfgfgbjheibaaDoor.BPure
open Go Go.RowKit Go.Proofs.YtdbfgfgbjheibaaDoor Go.Proofs.YtdbfgfgbjheibaaDoor.PBx Go.Proofs.YtdbfgfgbjheibaaDoor.Given Go.Proofs.YtdbfgfgbjheibaaDoorW.PrintWords Go.Proofs.YtdbfgfgbjheibaaDoorW.PrintLast Go.Proofs.YtdbfgfgbjheibaaDoorW.PrintMore
set_option linter.unusedVariables false
set_option linter.unusedSimpArgs false
def sameI : List Int → List Int → Bool
 | [], [] => true
 | x :: s, y :: t => (x == y) && sameI s t
 | _, _ => false
def eq3 (x y : S109) : Bool := x.f0 == y.f0 && (x.f1 == y.f1 && x.f2 == y.f2)
def sameC : List S109 → List S109 → Bool
 | [], [] => true
 | x :: s, y :: t => eq3 x y && sameC s t
 | _, _ => false
theorem sameI_self : ∀ l, sameI l l = true
 | [] => rfl
 | x :: t => by unfold sameI; rw [sameI_self t]; simp
theorem sameC_self : ∀ l, sameC l l = true
 | [] => rfl
 | x :: t => by unfold sameC eq3; rw [sameC_self t]; simp
theorem sameI_len : ∀ a b : List Int, a.length ≠ b.length → sameI a b = false
 | [], [], h => absurd rfl h
 | [], _ :: _, _ => rfl
 | _ :: _, [], _ => rfl
 | x :: s, y :: t, h => by unfold sameI; rw [sameI_len s t (by simpa using h)]; simp
theorem sameC_len : ∀ a b : List S109, a.length ≠ b.length → sameC a b = false
 | [], [], h => absurd rfl h
 | [], _ :: _, _ => rfl
 | _ :: _, [], _ => rfl
 | x :: s, y :: t, h => by unfold sameC; rw [sameC_len s t (by simpa using h)]; simp
theorem ints_l0 (a b : List Int) (hz : a.length ≤ 100000) (hl : a.length = b.length) : ∀ (d i k : Nat), i + d = a.length → d < k → r15_Ints.l0 k a b (i : Int) = some (sameI (a.drop i) (b.drop i)) := by
 intro d
 induction d with
 | zero =>
  intro i k h1 h2
  obtain ⟨k, rfl⟩ : ∃ m, k = m + 1 := ⟨k - 1, by omega⟩
  unfold r15_Ints.l0
  rw [if_neg (by omega), List.drop_eq_nil_of_le (by omega), List.drop_eq_nil_of_le (by omega)]; rfl
 | succ d ih =>
  intro i k h1 h2
  obtain ⟨k, rfl⟩ : ∃ m, k = m + 1 := ⟨k - 1, by omega⟩
  unfold r15_Ints.l0
  rw [if_pos (by omega), if_pos (by omega), if_pos (by omega), rd_drop a i (by omega), rd_drop b i (by omega)]
  generalize rd a (i : Int) = x
  generalize rd b (i : Int) = y
  unfold sameI
  by_cases h : x = y
  ·rw [if_pos h, w64 _ (by omega) (by omega), beq_iff_eq.2 h, Bool.true_and]
   exact ih (i + 1) k (by omega) (by omega)
  ·rw [if_neg h, beq_eq_false_iff_ne.2 h]; rfl
theorem ints_is (a b : List Int) (hz : a.length ≤ 100000) (k : Nat) (hk : a.length < k) : r15_Ints.f k a b = some (sameI a b) := by
 unfold r15_Ints.f
 by_cases h : (a.length : Int) = (b.length : Int)
 ·rw [if_pos h]
  exact ints_l0 a b hz (by omega) a.length 0 k (by omega) hk
 ·rw [if_neg h, sameI_len a b (by omega)]
theorem same13_l0 (a b : List S109) (hz : a.length ≤ 100000) (hl : a.length = b.length) : ∀ (d i k : Nat), i + d = a.length → d < k → r13_Same.l0 k a b (i : Int) = some (sameC (a.drop i) (b.drop i)) := by
 intro d
 induction d with
 | zero =>
  intro i k h1 h2
  obtain ⟨k, rfl⟩ : ∃ m, k = m + 1 := ⟨k - 1, by omega⟩
  unfold r13_Same.l0
  rw [if_neg (by omega), List.drop_eq_nil_of_le (by omega), List.drop_eq_nil_of_le (by omega)]; rfl
 | succ d ih =>
  intro i k h1 h2
  obtain ⟨k, rfl⟩ : ∃ m, k = m + 1 := ⟨k - 1, by omega⟩
  unfold r13_Same.l0
  rw [if_pos (by omega), if_pos (by omega), if_pos (by omega), rd47_drop a i (by omega), rd47_drop b i (by omega)]
  generalize rd_T109 a (i : Int) = x
  generalize rd_T109 b (i : Int) = y
  have e : (!(x.f0 == y.f0) || (!(x.f1 == y.f1) || !(x.f2 == y.f2))) = !eq3 x y := by
   unfold eq3
   cases x.f0 == y.f0 <;> cases x.f1 == y.f1 <;> cases x.f2 == y.f2 <;> rfl
  rw [e]
  unfold sameC
  by_cases h : eq3 x y = true
  ·rw [if_neg (by rw [h]; simp), w64 _ (by omega) (by omega), h, Bool.true_and]
   exact ih (i + 1) k (by omega) (by omega)
  ·rw [show eq3 x y = false by simpa using h]; rfl
theorem same13_is (a b : List S109) (hz : a.length ≤ 100000) (k : Nat) (hk : a.length < k) : r13_Same.f k a b = some (sameC a b) := by
 unfold r13_Same.f
 by_cases h : (a.length : Int) = (b.length : Int)
 ·rw [if_pos h]
  exact same13_l0 a b hz (by omega) a.length 0 k (by omega) hk
 ·rw [if_neg h, sameC_len a b (by omega)]
def sameU (n : ByteArray) (P : List Int) (R : Int) (L : List Int) (C : List S109) (n' : ByteArray) (P' : List Int) (R' : Int) (L' : List Int) (C' : List S109) : Bool := decide (n.toList = n'.toList) && decide (R = R') && sameI P P' && sameI L L' && sameC C C'
theorem rsame_is (n : ByteArray) (P : List Int) (R : Int) (L : List Int) (C : List S109) (n' : ByteArray) (P' : List Int) (R' : Int) (L' : List Int) (C' : List S109) (hP : P.length ≤ 10000) (hL : L.length ≤ 10000) (hC : C.length ≤ 10000) (k : Nat) (hk : 10001 ≤ k) : r15_Same.f k n P R L C n' P' R' L' C' = some (sameU n P R L C n' P' R' L' C') := by
 unfold r15_Same.f sameU
 by_cases h1 : n.toList = n'.toList
 ·rw [if_pos h1, decide_eq_true h1, Bool.true_and]
  by_cases h2 : R = R'
  ·rw [if_pos h2, decide_eq_true h2, Bool.true_and, ints_is P P' (by omega) k (by omega), zP, ints_is L L' (by omega) k (by omega), zP, same13_is C C' (by omega) k (by omega), zP]
   cases sameI P P' <;> cases sameI L L' <;> simp
  ·rw [if_neg h2, decide_eq_false h2]; simp
 ·rw [if_neg h1, decide_eq_false h1]; simp
theorem sameU_self (n : ByteArray) (P : List Int) (R : Int) (L : List Int) (C : List S109) : sameU n P R L C n P R L C = true := by
 unfold sameU
 rw [sameI_self, sameI_self, sameC_self]; simp
end Go.Proofs.YtdbfgfgbjheibaaDoor.BPure
end
