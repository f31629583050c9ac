/- box.read where it throws: bytes that do not begin as a container; bytes whose sum differs. -/
import Derived.Test.YtdbfgfgbjheibaaDoorZBoxDecodesq
import Derived.Test.YtdbfgfgbjheibaaDoorProg
import Derived.Below
import Derived.Deep.Draws
import Derived.Deep.AppendLies
import Derived.Maps.AppendAt
import Derived.OwnWalk
import Derived.Laws.BytesArg
import Derived.Laws.MakeOwn
import Derived.Laws.OwnMore
import Derived.Deep.OwnRows
import Derived.Tactics
import Derived.Lib.ConvBytes
import Derived.Laws.Slices
import Derived.WalkKit
import Derived.KernelRfl
import Derived.RowKit3
import Derived.Deep.LoopGhost
import Derived.Deep.QuietTactic
import Derived.BigQuiet
import Derived.WideLaws
import Derived.Deep.DeepCutAuto
import Derived.Deep.CutBlock
import Derived.Deep.RegionHeld3
import Derived.Laws.Rows
import Derived.Lib.AppendStr
import Derived.ArgAppend
import Derived.Laws.IdiomCopy
import Derived.OrdersHeld
import Derived.Laws.BitsLemmas
import Derived.RowKit
import Derived.Deep.RegionWith
import Derived.Test.YtdbfgfgbjheibaaDoorZBoxDecodesaa
import Derived.Test.YtdbfgfgbjheibaaDoorZBoxDecodesab
import Derived.Test.YtdbfgfgbjheibaaDoorZBoxDecodesaf
import Derived.Test.YtdbfgfgbjheibaaDoorZBoxDecodesai
import Derived.Test.YtdbfgfgbjheibaaDoorZBoxDecodesaj
import Derived.Test.YtdbfgfgbjheibaaDoorZBoxDecodesak
section
/- The document's GetConsts, GetBlocks, GetVars; bytes of at most 1000000000. -/
namespace Go.Proofs.YtdbfgfgbjheibaaDoor.Given
open Go Go.RowKit Go.Proofs.YtdbfgfgbjheibaaDoorW.PrintWords Go.Proofs.YtdbfgfgbjheibaaDoorW.PrintLast Go.Proofs.YtdbfgfgbjheibaaDoorW.PrintMore
set_option linter.unusedVariables false
set_option linter.unusedSimpArgs false
theorem head_range (most : Int) (b : List Int) (hb : okB b = true) : 0 ≤ (headR most b).1 ∧ (headR most b).1 < 65536 := by
 have h := num2_range b hb
 unfold headR
 split
 ·exact ⟨Int.le_refl _, by decide⟩
 ·split
  ·exact ⟨Int.le_refl _, by decide⟩
  ·exact h
/-- Behind the reader, and no record's own block. -/
def okr (g x : Nat) (k : Nat) : Prop := g < k ∧ k ≠ x
theorem okr_new {g x k : Nat} (h : g < k) (h2 : x < k) : okr g x k := ⟨h, by omega⟩
theorem R_keep2 {α : Type} {d : Kd α} {e base : Nat} {W W' : World} {g x : Nat} {v : Value} {xs : List α} (h : d.R e W base (okr g x) v xs) (hk : KeepBut W W' g none) : d.R e W' base (okr g x) v xs :=
 Kd.R_step h (fun k ho hlt => hk.2 k hlt (by have := ho.1; omega) (by simp))
theorem R_set {α : Type} {d : Kd α} {e base : Nat} {W : World} {g x : Nat} {p : Addr} (hp : p.block = x) {v : Value} {xs : List α} (h : d.R e W base (okr g x) v xs) (u : Value) : d.R e (W.setCell p u) base (okr g x) v xs :=
 Kd.R_step h (fun k ho hlt => Below.heap_setCell _ _ _ _ (by rw [hp]; exact ho.2))
theorem R_okr {α : Type} {d : Kd α} {e base : Nat} {W : World} {g : Nat} {v : Value} {xs : List α} (hM : ∀ x cs, d.M W base (fun k => (fun k => g < k) k ∧ some k ≠ v.ownBlock) x cs → d.M W base (fun k => okr g W.heap.size k ∧ some k ≠ v.ownBlock) x cs) (h : d.R e W base (fun k => g < k) v xs) (o : Obj) : d.R e (W.alloc o) base (okr g W.heap.size) v xs :=
 zR ⟨fun k hk => ⟨h.1 k hk, Nat.ne_of_lt (Kd.R_lt h k hk)⟩, h.2.imp_ (fun x cs hp => hM x cs hp)⟩ o
theorem rows_w (A0 : Option Addr) (c0 : Nat) (b : List Int) (most : Int) (H : Int × Int) (hH : headR most b = H) (w : World) (hr0 : Kd.C (Kd.int .u8) w A0 b.length b) (hc0 : b.length ≤ c0) (hb : okB b = true) :
  Calls Tryd.prog 101 #[.slice A0 b.length c0, .int .i64 most] w fun e w' => ∃ g, e = .returned (.tuple #[.pointer (some ⟨g, 0, none⟩), .int .i64 H.1, .int .i64 H.2]) ∧ w.heap.size ≤ g ∧ RJ w' g b (numR b 0 false 2).2.1 (numR b 0 false 2).2.2 ∧ Below w.heap.size w w' := by
 have hJ : RJ (w.alloc (.cells #[.slice A0 b.length c0, .int .i64 0, .bool false] 71)) w.heap.size b 0 false :=
  ⟨A0, c0, heap_alloc_new _ _, zD hr0 ((zX _ _).alloc (z5 _) _), hc0, Int.le_refl _, Int.natCast_nonneg _, fun ad e hn => by subst e; exact C_lt hr0 hn⟩
 have HJ := zA hJ
 have HO := zA hb
 clear hJ hr0 hb
 unfold headR at hH
 obtain ⟨t, hT⟩ : ∃ t, numR b 0 false 2 = t := ⟨_, rfl⟩
 rw [hT] at hH ⊢
 have HT := zA hT
 have HH := zA hH
 clear hT hH
 go_enter Tryd.func101, Tryd.ntmps101
 go_wp2_with fail
 refine (rnum_j w.heap.size _ b 0 false 2 HJ.out HO.out).mono ?_
 rw [HT.out]
 rintro e W3 ⟨rfl, h3, hk3, hb3⟩
 obtain ⟨n, at0, bad0⟩ := t
 have hB3 : Below w.heap.size w W3 := ((zX _ _).alloc (z5 _) _).trans hb3
 have H3 := zA (And.intro h3 hB3)
 obtain ⟨a_, c_, hbk, _⟩ := h3
 have q2 : W3.cell? ⟨w.heap.size, 2, none⟩ = some (.bool bad0) := (zC hbk 2).trans rfl
 clear hbk hb3 hB3 hk3 HJ HT
 cases bad0 with
 | true =>
  have hh := HH.out
  simp only [if_true] at hh
  subst hh
  clear HH
  go_wp2_with fail
  refine bodyPost_ret (results_tmp3 rfl _ _ _) rfl ?_
  exact ⟨_, rfl, z5 _, H3.out.1, H3.out.2⟩
 | false =>
  have hh := HH.out
  simp only [Bool.false_eq_true, if_false] at hh
  clear HH
  by_cases hm : n > most
  ·rw [if_pos hm] at hh
   subst hh
   go_wp2_with fail
   refine bodyPost_ret (results_tmp3 rfl _ _ _) rfl ?_
   exact ⟨_, rfl, z5 _, H3.out.1, H3.out.2⟩
  ·rw [if_neg hm] at hh
   subst hh
   go_wp2_with fail
   refine bodyPost_ret (results_tmp3 rfl _ _ _) rfl ?_
   exact ⟨_, rfl, z5 _, H3.out.1, H3.out.2⟩
theorem end_w (g : Nat) (W : World) (b : List Int) (at_ : Int) (bad : Bool) (h : RJ W g b at_ bad) :
  Calls Tryd.prog 102 #[.pointer (some ⟨g, 0, none⟩)] W fun e w' => e = .returned (.int .i64 (endR b at_ bad)) ∧ w' = W := by
 obtain ⟨a, c, hb, _, _, h0, h1, _⟩ := h
 have q0 : W.cell? ⟨g, 0, none⟩ = some (.slice a (b.drop at_.toNat).length c) := (zC hb 0).trans rfl
 have q2 : W.cell? ⟨g, 2, none⟩ = some (.bool bad) := (zC hb 2).trans rfl
 have hl : (((b.drop at_.toNat).length : Nat) : Int) = b.length - at_ := by simp; omega
 unfold endR
 rw [← hl]
 generalize (b.drop at_.toNat).length = L at q0
 clear hl hb
 cases bad with
 | true =>
  go_enter Tryd.func102, Tryd.ntmps102
  go_wp2_with fail
  go_ret
  exact ⟨rfl, rfl⟩
 | false =>
  simp only [Bool.false_eq_true, if_false]
  by_cases hL : (L : Int) > 0
  ·rw [if_pos hL]
   go_enter Tryd.func102, Tryd.ntmps102
   go_wp2_with fail
   go_ret
   exact ⟨rfl, rfl⟩
  ·rw [if_neg hL]
   go_enter Tryd.func102, Tryd.ntmps102
   go_wp2_with fail
   go_ret
   exact ⟨rfl, rfl⟩
set_option maxHeartbeats 4000000 in
set_option maxRecDepth 100000 in
theorem rcon_get (A0 : Option Addr) (c0 : Nat) (b : List Int) (w : World) (hr0 : Kd.C (Kd.int .u8) w A0 b.length b) (hc0 : b.length ≤ c0) (hb : okB b = true) :
  Calls Tryd.prog 78 #[.slice A0 b.length c0] w fun e w' => ∃ v0_ : Value, e = .returned (.tuple #[v0_, .int .i64 (getR conR 1024 b).2]) ∧ Kd.R PBx.k68 68 w' w.heap.size (fun _ => True) v0_ (getR conR 1024 b).1 ∧ Below w.heap.size w w' := by
 have HO := zA hb
 obtain ⟨t, hT⟩ : ∃ t, numR b 0 false 2 = t := ⟨_, rfl⟩
 have hrg := head_range 1024 b hb
 obtain ⟨H, hH⟩ : ∃ H, headR 1024 b = H := ⟨_, rfl⟩
 rw [hH] at hrg
 obtain ⟨r, hR⟩ : ∃ r, getR conR 1024 b = r := ⟨_, rfl⟩
 rw [hR]
 unfold getR at hR
 rw [hT, hH] at hR
 have HW := zA (rows_w A0 c0 b 1024 H hH w hr0 hc0 hb)
 rw [hT] at HW
 obtain ⟨n, E⟩ := H
 simp only at hrg
 obtain ⟨N, rfl⟩ : ∃ N : Nat, n = (N : Int) := ⟨n.toNat, by omega⟩
 obtain ⟨u, hU⟩ : ∃ u, rowsR (conR b) N t.2.1 t.2.2 [] = u := ⟨_, rfl⟩
 simp only [Int.toNat_natCast] at hR
 rw [hU] at hR
 have HR := zA hR
 have HU := zA hU
 clear hb hT hR hU hH hr0 hc0
 obtain ⟨t0, at0, bad0⟩ := t
 go_enter Tryd.func78, Tryd.ntmps78
 go_wp2_with fail
 refine HW.out.mono ?_
 rintro e W3 ⟨g, rfl, hg, h3, hb3⟩
 have H4 := zA (And.intro h3 hb3)
 clear h3 hb3 HW
 go_wp2_with fail
 go_loopw [7, 8] (fun ov iv wr => ∃ (j : Nat) (at_ : Int) (bad : Bool) (l : List SC), j ≤ N ∧ iv = .int .i64 (j : Int) ∧ Aside0 (l.length = j) ∧ Aside0 (Kd.R PBx.k68 68 wr w.heap.size (fun k => g < k) ov l) ∧ Aside0 (RJ wr g b at_ bad ∧ Below w.heap.size w wr) ∧ Aside0 (rowsR (conR b) (N - j) at_ bad l = u)) (fun _ iv _ => N - (intOf iv).toNat)
 case atStart => exact ⟨0, _, _, [], Nat.zero_le _, rfl, ⟨rfl⟩, ⟨Kd.R_nil _ _ _ _ _⟩, H4, HU⟩
 case round =>
  clear HU H4
  obtain ⟨j, at_, bad, l, hj, rfl, HL, HV, HI, HU⟩ := hrel
  obtain ⟨A2, c2, rfl, hl2, hC2⟩ := Kd.R_reads HV.out
  clear hC2 hl2
  by_cases hjn : j < N
  rotate_left
  ·have hu := HU.out
   rw [show N - j = 0 by omega] at hu
   have HU2 := zA (show (l, at_, bad) = u from hu)
   have hh := HR.out
   rw [← HU2.out] at hh
   clear hu HU
   by_cases hE : E = 0
   ·subst hE
    rw [if_pos rfl] at hh
    have H5 := zA (end_w g wr b at_ bad HI.out.1)
    generalize endR b at_ bad = D at hh H5
    by_cases hD : D = 0
    ·subst hD
     rw [if_pos rfl] at hh
     have HH := zA hh
     clear hh HR
     go_wp2_with fail
     refine H5.out.mono ?_
     rintro e W6 ⟨rfl, rfl⟩
     go_wp2_with fail
     go_ret2
     rw [← HH.out]
     exact ⟨_, rfl, Kd.R_mono HV.out (fun _ _ => trivial), HI.out.2⟩
    ·rw [if_neg hD] at hh
     have HH := zA hh
     have hDb : (D == 0) = false := beq_eq_false_iff_ne.2 hD
     clear hh HR
     go_wp2_with fail
     refine H5.out.mono ?_
     rintro e W6 ⟨rfl, rfl⟩
     go_wp2_with fail
     go_ret2
     rw [← HH.out]
     exact ⟨_, rfl, Kd.R_nil _ _ _ _ _, HI.out.2⟩
   ·rw [if_neg hE] at hh
    have HH := zA hh
    have hEb : (E == 0) = false := beq_eq_false_iff_ne.2 hE
    clear hh HR
    go_wp2_with fail
    go_ret2
    rw [← HH.out]
    exact ⟨_, rfl, Kd.R_nil _ _ _ _ _, HI.out.2⟩
  ·have hu := HU.out
   rw [show N - j = (N - (j + 1)) + 1 by omega] at hu
   unfold rowsR conR at hu
   dsimp only at hu
   have HU2 := hu
   clear hu HU HR
   ·skip
    generalize hU0 : numR b at_ bad 1 = u0_ at HU2
    have HX0 := zA hU0
    clear hU0
    go_wp2_with fail
    refine (rnum_j g wr b at_ bad 1 HI.out.1 HO.out).mono ?_
    rw [HX0.out]
    rintro e V0 ⟨rfl, h5, hk5, hb5⟩
    have HI0 := zA (And.intro h5 (HI.out.2.trans (hb5.mono hg)))
    have HV0 := zA (R_keep HV.out hk5)
    clear h5 hk5 hb5 HX0 HI HV
    generalize hU1 : numR b u0_.2.1 u0_.2.2 8 = u1_ at HU2
    have HX1 := zA hU1
    clear hU1
    go_wp2_with fail
    refine (rnum_j g V0 b u0_.2.1 u0_.2.2 8 HI0.out.1 HO.out).mono ?_
    rw [HX1.out]
    rintro e V1 ⟨rfl, h5, hk5, hb5⟩
    have HI1 := zA (And.intro h5 (HI0.out.2.trans (hb5.mono hg)))
    have HV1 := zA (R_keep HV0.out hk5)
    clear h5 hk5 hb5 HX1 HI0 HV0
    go_wp2_with ((with_reducible refine gate_builtin (b := .append) (xs := #[.tmp 23, .tmp 28]) rfl ?_); at_builtin; refine Kd.R_append PBx.k68 (w0 := w) w.heap.size rfl (.tmp 23) (.tmp 28) 22 68 (.agg #[.int .i64 0, .int .i64 0]) 16 rfl Tryd.underlying22 (by kernel_rfl) rfl (by decide) (by omega) (.slice A2 l.length c2) l (⟨u0_.1, u1_.1⟩ : SC) [.int .i64 u0_.1, .int .i64 u1_.1] (fun k => g < k) (fun _ => False) rfl (by first | (go_simp; done) | (go_simp; rfl)) ?aP (fun _ hk => hk.elim) ?aF ?aO ?aB ?aS ?aL ?_; (case aP => exact PBx.k68_mkM _ _ _ (⟨u0_.1, u1_.1⟩ : SC)); (case aB => exact HI1.out.2); (case aF => exact fun k hk => Nat.lt_of_lt_of_le HI1.out.1.ltS hk); (case aO => exact HV1.out); (case aS => exact HI1.out.2.size); (case aL => have := HL.out; omega); intro v7 W7 ho7 hb7 hg7 hat7; have HI7 := zA (And.intro (HI1.out.1.grown hg7 (fun k e => HV1.out.1 k e)) hb7); have HV7 := zA ho7; clear hg7 hat7 ho7 hb7)
    refine ⟨⟨j + 1, _, _, l ++ [(⟨u0_.1, u1_.1⟩ : SC)], by omega, by push_cast; rfl, ⟨by rw [List.length_append, HL.out]; rfl⟩, HV7, HI7, ⟨HU2⟩⟩, ?_⟩
    rw [show intOf (.int .i64 ((j : Int) + 1)) = (j : Int) + 1 from rfl, show intOf (.int .i64 (j : Int)) = (j : Int) from rfl]
    omega
def r14_GetConsts.f (b : List Int) : Option (List SC × Int) := if okB b = true then some (getR conR 1024 b) else none
theorem r14_GetConsts.calls (A0 : Option Addr) (c0 : Nat) (l0 : List Int) (r1 : List SC) (r2 : Int) (w : World) (hr0 : Kd.C (Kd.int .u8) w A0 l0.length l0) (hc0 : l0.length ≤ c0) (h : r14_GetConsts.f l0 = some (r1, r2)) :
  Calls Tryd.prog 78 #[.slice A0 l0.length c0] w fun e w' => ∃ v0_ : Value, e = .returned (.tuple #[v0_, .int .i64 r2]) ∧ Kd.R PBx.k68 68 w' w.heap.size (fun _ => True) v0_ r1 ∧ Below w.heap.size w w' := by
 unfold r14_GetConsts.f at h
 split at h
 ·rename_i hb
  have h := zJ h
  have HG := rcon_get A0 c0 l0 w hr0 hc0 hb
  rw [h] at HG
  exact HG
 ·cases h
set_option maxHeartbeats 4000000 in
set_option maxRecDepth 100000 in
theorem rblk_get (A0 : Option Addr) (c0 : Nat) (b : List Int) (w : World) (hr0 : Kd.C (Kd.int .u8) w A0 b.length b) (hc0 : b.length ≤ c0) (hb : okB b = true) :
  Calls Tryd.prog 80 #[.slice A0 b.length c0] w fun e w' => ∃ v0_ : Value, e = .returned (.tuple #[v0_, .int .i64 (getR blkR 32 b).2]) ∧ Kd.R PBx.k43 43 w' w.heap.size (fun _ => True) v0_ (getR blkR 32 b).1 ∧ Below w.heap.size w w' := by
 have HO := zA hb
 obtain ⟨t, hT⟩ : ∃ t, numR b 0 false 2 = t := ⟨_, rfl⟩
 have hrg := head_range 32 b hb
 obtain ⟨H, hH⟩ : ∃ H, headR 32 b = H := ⟨_, rfl⟩
 rw [hH] at hrg
 obtain ⟨r, hR⟩ : ∃ r, getR blkR 32 b = r := ⟨_, rfl⟩
 rw [hR]
 unfold getR at hR
 rw [hT, hH] at hR
 have HW := zA (rows_w A0 c0 b 32 H hH w hr0 hc0 hb)
 rw [hT] at HW
 obtain ⟨n, E⟩ := H
 simp only at hrg
 obtain ⟨N, rfl⟩ : ∃ N : Nat, n = (N : Int) := ⟨n.toNat, by omega⟩
 obtain ⟨u, hU⟩ : ∃ u, rowsR (blkR b) N t.2.1 t.2.2 [] = u := ⟨_, rfl⟩
 simp only [Int.toNat_natCast] at hR
 rw [hU] at hR
 have HR := zA hR
 have HU := zA hU
 clear hb hT hR hU hH hr0 hc0
 obtain ⟨t0, at0, bad0⟩ := t
 go_enter Tryd.func80, Tryd.ntmps80
 go_wp2_with fail
 refine HW.out.mono ?_
 rintro e W3 ⟨g, rfl, hg, h3, hb3⟩
 have H4 := zA (And.intro h3 hb3)
 clear h3 hb3 HW
 go_wp2_with fail
 go_loopw [7, 8] (fun ov iv wr => ∃ (j : Nat) (at_ : Int) (bad : Bool) (l : List SB), j ≤ N ∧ iv = .int .i64 (j : Int) ∧ Aside0 (l.length = j) ∧ Aside0 (Kd.R PBx.k43 43 wr w.heap.size (fun k => g < k) ov l) ∧ Aside0 (RJ wr g b at_ bad ∧ Below w.heap.size w wr) ∧ Aside0 (rowsR (blkR b) (N - j) at_ bad l = u)) (fun _ iv _ => N - (intOf iv).toNat)
 case atStart => exact ⟨0, _, _, [], Nat.zero_le _, rfl, ⟨rfl⟩, ⟨Kd.R_nil _ _ _ _ _⟩, H4, HU⟩
 case round =>
  clear HU H4
  obtain ⟨j, at_, bad, l, hj, rfl, HL, HV, HI, HU⟩ := hrel
  obtain ⟨A2, c2, rfl, hl2, hC2⟩ := Kd.R_reads HV.out
  clear hC2 hl2
  by_cases hjn : j < N
  rotate_left
  ·have hu := HU.out
   rw [show N - j = 0 by omega] at hu
   have HU2 := zA (show (l, at_, bad) = u from hu)
   have hh := HR.out
   rw [← HU2.out] at hh
   clear hu HU
   by_cases hE : E = 0
   ·subst hE
    rw [if_pos rfl] at hh
    have H5 := zA (end_w g wr b at_ bad HI.out.1)
    generalize endR b at_ bad = D at hh H5
    by_cases hD : D = 0
    ·subst hD
     rw [if_pos rfl] at hh
     have HH := zA hh
     clear hh HR
     go_wp2_with fail
     refine H5.out.mono ?_
     rintro e W6 ⟨rfl, rfl⟩
     go_wp2_with fail
     go_ret2
     rw [← HH.out]
     exact ⟨_, rfl, Kd.R_mono HV.out (fun _ _ => trivial), HI.out.2⟩
    ·rw [if_neg hD] at hh
     have HH := zA hh
     have hDb : (D == 0) = false := beq_eq_false_iff_ne.2 hD
     clear hh HR
     go_wp2_with fail
     refine H5.out.mono ?_
     rintro e W6 ⟨rfl, rfl⟩
     go_wp2_with fail
     go_ret2
     rw [← HH.out]
     exact ⟨_, rfl, Kd.R_nil _ _ _ _ _, HI.out.2⟩
   ·rw [if_neg hE] at hh
    have HH := zA hh
    have hEb : (E == 0) = false := beq_eq_false_iff_ne.2 hE
    clear hh HR
    go_wp2_with fail
    go_ret2
    rw [← HH.out]
    exact ⟨_, rfl, Kd.R_nil _ _ _ _ _, HI.out.2⟩
  ·have hu := HU.out
   rw [show N - j = (N - (j + 1)) + 1 by omega] at hu
   unfold rowsR blkR at hu
   dsimp only at hu
   have HU2 := hu
   clear hu HU HR
   ·skip
    generalize hU0 : textR b at_ bad = u0_ at HU2
    have HX0 := zA hU0
    clear hU0
    go_wp2_with fail
    refine (rtext_j g wr b at_ bad HI.out.1 HO.out).mono ?_
    rw [HX0.out]
    rintro e V0 ⟨rfl, h5, hk5, hb5⟩
    have HI0 := zA (And.intro h5 (HI.out.2.trans (hb5.mono hg)))
    have HV0 := zA (R_keep HV.out hk5)
    clear h5 hk5 hb5 HX0 HI HV
    generalize hU1 : numR b u0_.2.1 u0_.2.2 1 = u1_ at HU2
    have HX1 := zA hU1
    clear hU1
    go_wp2_with fail
    refine (rnum_j g V0 b u0_.2.1 u0_.2.2 1 HI0.out.1 HO.out).mono ?_
    rw [HX1.out]
    rintro e V1 ⟨rfl, h5, hk5, hb5⟩
    have HI1 := zA (And.intro h5 (HI0.out.2.trans (hb5.mono hg)))
    have HV1 := zA (R_keep HV0.out hk5)
    clear h5 hk5 hb5 HX1 HI0 HV0
    go_wp2_with ((with_reducible refine gate_builtin (b := .append) (xs := #[.tmp 23, .tmp 28]) rfl ?_); at_builtin; refine Kd.R_append PBx.k43 (w0 := w) w.heap.size rfl (.tmp 23) (.tmp 28) 24 43 (.agg #[.string ⟨#[]⟩, .int .i64 0]) 24 rfl Tryd.underlying24 (by kernel_rfl) rfl (by decide) (by omega) (.slice A2 l.length c2) l (⟨u0_.1, u1_.1⟩ : SB) [.string u0_.1, .int .i64 u1_.1] (fun k => g < k) (fun _ => False) rfl (by first | (go_simp; done) | (go_simp; rfl)) ?aP (fun _ hk => hk.elim) ?aF ?aO ?aB ?aS ?aL ?_; (case aP => exact PBx.k43_mkM _ _ _ (⟨u0_.1, u1_.1⟩ : SB)); (case aB => exact HI1.out.2); (case aF => exact fun k hk => Nat.lt_of_lt_of_le HI1.out.1.ltS hk); (case aO => exact HV1.out); (case aS => exact HI1.out.2.size); (case aL => have := HL.out; omega); intro v7 W7 ho7 hb7 hg7 hat7; have HI7 := zA (And.intro (HI1.out.1.grown hg7 (fun k e => HV1.out.1 k e)) hb7); have HV7 := zA ho7; clear hg7 hat7 ho7 hb7)
    refine ⟨⟨j + 1, _, _, l ++ [(⟨u0_.1, u1_.1⟩ : SB)], by omega, by push_cast; rfl, ⟨by rw [List.length_append, HL.out]; rfl⟩, HV7, HI7, ⟨HU2⟩⟩, ?_⟩
    rw [show intOf (.int .i64 ((j : Int) + 1)) = (j : Int) + 1 from rfl, show intOf (.int .i64 (j : Int)) = (j : Int) from rfl]
    omega
def r14_GetBlocks.f (b : List Int) : Option (List SB × Int) := if okB b = true then some (getR blkR 32 b) else none
theorem r14_GetBlocks.calls (A0 : Option Addr) (c0 : Nat) (l0 : List Int) (r1 : List SB) (r2 : Int) (w : World) (hr0 : Kd.C (Kd.int .u8) w A0 l0.length l0) (hc0 : l0.length ≤ c0) (h : r14_GetBlocks.f l0 = some (r1, r2)) :
  Calls Tryd.prog 80 #[.slice A0 l0.length c0] w fun e w' => ∃ v0_ : Value, e = .returned (.tuple #[v0_, .int .i64 r2]) ∧ Kd.R PBx.k43 43 w' w.heap.size (fun _ => True) v0_ r1 ∧ Below w.heap.size w w' := by
 unfold r14_GetBlocks.f at h
 split at h
 ·rename_i hb
  have h := zJ h
  have HG := rblk_get A0 c0 l0 w hr0 hc0 hb
  rw [h] at HG
  exact HG
 ·cases h
set_option maxHeartbeats 4000000 in
set_option maxRecDepth 100000 in
theorem rvar_get (A0 : Option Addr) (c0 : Nat) (b : List Int) (w : World) (hr0 : Kd.C (Kd.int .u8) w A0 b.length b) (hc0 : b.length ≤ c0) (hb : okB b = true) :
  Calls Tryd.prog 79 #[.slice A0 b.length c0] w fun e w' => ∃ v0_ : Value, e = .returned (.tuple #[v0_, .int .i64 (getR varR 64 b).2]) ∧ Kd.R PBx.k41 41 w' w.heap.size (fun _ => True) v0_ (getR varR 64 b).1 ∧ Below w.heap.size w w' := by
 have HO := zA hb
 obtain ⟨t, hT⟩ : ∃ t, numR b 0 false 2 = t := ⟨_, rfl⟩
 have hrg := head_range 64 b hb
 obtain ⟨H, hH⟩ : ∃ H, headR 64 b = H := ⟨_, rfl⟩
 rw [hH] at hrg
 obtain ⟨r, hR⟩ : ∃ r, getR varR 64 b = r := ⟨_, rfl⟩
 rw [hR]
 unfold getR at hR
 rw [hT, hH] at hR
 have HW := zA (rows_w A0 c0 b 64 H hH w hr0 hc0 hb)
 rw [hT] at HW
 obtain ⟨n, E⟩ := H
 simp only at hrg
 obtain ⟨N, rfl⟩ : ∃ N : Nat, n = (N : Int) := ⟨n.toNat, by omega⟩
 obtain ⟨u, hU⟩ : ∃ u, rowsR (varR b) N t.2.1 t.2.2 [] = u := ⟨_, rfl⟩
 simp only [Int.toNat_natCast] at hR
 rw [hU] at hR
 have HR := zA hR
 have HU := zA hU
 clear hb hT hR hU hH hr0 hc0
 obtain ⟨t0, at0, bad0⟩ := t
 go_enter Tryd.func79, Tryd.ntmps79
 go_wp2_with fail
 refine HW.out.mono ?_
 rintro e W3 ⟨g, rfl, hg, h3, hb3⟩
 have H4 := zA (And.intro h3 hb3)
 clear h3 hb3 HW
 go_wp2_with fail
 go_loopw [7, 8] (fun ov iv wr => ∃ (j : Nat) (at_ : Int) (bad : Bool) (l : List SV), j ≤ N ∧ iv = .int .i64 (j : Int) ∧ Aside0 (l.length = j) ∧ Aside0 (Kd.R PBx.k41 41 wr w.heap.size (fun k => g < k) ov l) ∧ Aside0 (RJ wr g b at_ bad ∧ Below w.heap.size w wr) ∧ Aside0 (rowsR (varR b) (N - j) at_ bad l = u)) (fun _ iv _ => N - (intOf iv).toNat)
 case atStart => exact ⟨0, _, _, [], Nat.zero_le _, rfl, ⟨rfl⟩, ⟨Kd.R_nil _ _ _ _ _⟩, H4, HU⟩
 case round =>
  clear HU H4
  obtain ⟨j, at_, bad, l, hj, rfl, HL, HV, HI, HU⟩ := hrel
  obtain ⟨A2, c2, rfl, hl2, hC2⟩ := Kd.R_reads HV.out
  clear hC2 hl2
  by_cases hjn : j < N
  rotate_left
  ·have hu := HU.out
   rw [show N - j = 0 by omega] at hu
   have HU2 := zA (show (l, at_, bad) = u from hu)
   have hh := HR.out
   rw [← HU2.out] at hh
   clear hu HU
   by_cases hE : E = 0
   ·subst hE
    rw [if_pos rfl] at hh
    have H5 := zA (end_w g wr b at_ bad HI.out.1)
    generalize endR b at_ bad = D at hh H5
    by_cases hD : D = 0
    ·subst hD
     rw [if_pos rfl] at hh
     have HH := zA hh
     clear hh HR
     go_wp2_with fail
     refine H5.out.mono ?_
     rintro e W6 ⟨rfl, rfl⟩
     go_wp2_with fail
     go_ret2
     rw [← HH.out]
     exact ⟨_, rfl, Kd.R_mono HV.out (fun _ _ => trivial), HI.out.2⟩
    ·rw [if_neg hD] at hh
     have HH := zA hh
     have hDb : (D == 0) = false := beq_eq_false_iff_ne.2 hD
     clear hh HR
     go_wp2_with fail
     refine H5.out.mono ?_
     rintro e W6 ⟨rfl, rfl⟩
     go_wp2_with fail
     go_ret2
     rw [← HH.out]
     exact ⟨_, rfl, Kd.R_nil _ _ _ _ _, HI.out.2⟩
   ·rw [if_neg hE] at hh
    have HH := zA hh
    have hEb : (E == 0) = false := beq_eq_false_iff_ne.2 hE
    clear hh HR
    go_wp2_with fail
    go_ret2
    rw [← HH.out]
    exact ⟨_, rfl, Kd.R_nil _ _ _ _ _, HI.out.2⟩
  ·have hu := HU.out
   rw [show N - j = (N - (j + 1)) + 1 by omega] at hu
   unfold rowsR varR at hu
   dsimp only at hu
   have HU2 := hu
   clear hu HU HR
   ·skip
    have hx0 : (wr.alloc (.cells #[.string ⟨#[]⟩, .int .i64 0, .int .i64 0, .int .i64 0, .int .i64 0] 41)).heap[wr.heap.size]? = some (.cells #[.string ⟨#[]⟩, .int .i64 0, .int .i64 0, .int .i64 0, .int .i64 0] 41 (0, 0)) := heap_alloc_new wr _
    have hgl := HI.out.1.ltS
    have hne : wr.heap.size ≠ g := by omega
    have hB0 := (zX wr.heap.size wr).alloc (z5 _) (.cells #[.string ⟨#[]⟩, .int .i64 0, .int .i64 0, .int .i64 0, .int .i64 0] 41)
    have T0 := zA (And.intro (HI.out.1.below hB0) (And.intro (HI.out.2.trans (hB0.mono HI.out.2.size)) (And.intro (R_okr (fun x cs hp => by obtain rfl := PBx.k41_openM hp; exact PBx.k41_mkM _ _ _ x) HV.out (.cells #[.string ⟨#[]⟩, .int .i64 0, .int .i64 0, .int .i64 0, .int .i64 0] 41)) hx0)))
    clear hx0 hB0
    generalize hU0 : textR b at_ bad = u0_ at HU2
    have HX0 := zA hU0
    clear hU0
    go_wp2_with fail
    refine (rtext_j g _ b at_ bad T0.out.1 HO.out).mono ?_
    rw [HX0.out]
    rintro e V0 ⟨rfl, h5, hk5, hb5⟩
    have hx5 := hk5.blk T0.out.2.2.2 hne (by simp)
    have f5 := zF hx5 0
    have s5 : V0.cell? ⟨wr.heap.size, 0, none⟩ = some (.string ⟨#[]⟩) := (zC hx5 0).trans rfl
    have T1 := zA (show RJ (V0.setCell ⟨wr.heap.size, 0, none⟩ (.string u0_.1)) g b u0_.2.1 u0_.2.2 ∧ Below w.heap.size w (V0.setCell ⟨wr.heap.size, 0, none⟩ (.string u0_.1)) ∧ Kd.R PBx.k41 41 (V0.setCell ⟨wr.heap.size, 0, none⟩ (.string u0_.1)) w.heap.size (okr g wr.heap.size) (.slice A2 l.length c2) l ∧ (V0.setCell ⟨wr.heap.size, 0, none⟩ (.string u0_.1)).heap[wr.heap.size]? = some (.cells #[.string u0_.1, .int .i64 0, .int .i64 0, .int .i64 0, .int .i64 0] 41 (0, 0)) from
     ⟨h5.le (fun k hk => Below.heap_setCell _ _ _ _ (by show k ≠ wr.heap.size; omega)), ((T0.out.2.1.trans (hb5.mono hg)).setCell (p := ⟨wr.heap.size, 0, none⟩) (Nat.le_trans hg (Nat.le_of_lt hgl)) _), R_set (p := ⟨wr.heap.size, 0, none⟩) rfl (R_keep2 T0.out.2.2.1 hk5) _, blk_put hx5 0 _ rfl⟩)
    clear h5 hk5 hb5 hx5 HX0 T0
    generalize hU1 : numR b u0_.2.1 u0_.2.2 1 = u1_ at HU2
    have HX1 := zA hU1
    clear hU1
    go_wp2_with fail
    refine (rnum_j g _ b u0_.2.1 u0_.2.2 1 T1.out.1 HO.out).mono ?_
    rw [HX1.out]
    rintro e V1 ⟨rfl, h5, hk5, hb5⟩
    have hx5 := hk5.blk T1.out.2.2.2 hne (by simp)
    have f5 := zF hx5 1
    have s5 : V1.cell? ⟨wr.heap.size, 1, none⟩ = some (.int .i64 0) := (zC hx5 1).trans rfl
    have T2 := zA (show RJ (V1.setCell ⟨wr.heap.size, 1, none⟩ (.int .i64 u1_.1)) g b u1_.2.1 u1_.2.2 ∧ Below w.heap.size w (V1.setCell ⟨wr.heap.size, 1, none⟩ (.int .i64 u1_.1)) ∧ Kd.R PBx.k41 41 (V1.setCell ⟨wr.heap.size, 1, none⟩ (.int .i64 u1_.1)) w.heap.size (okr g wr.heap.size) (.slice A2 l.length c2) l ∧ (V1.setCell ⟨wr.heap.size, 1, none⟩ (.int .i64 u1_.1)).heap[wr.heap.size]? = some (.cells #[.string u0_.1, .int .i64 u1_.1, .int .i64 0, .int .i64 0, .int .i64 0] 41 (0, 0)) from
     ⟨h5.le (fun k hk => Below.heap_setCell _ _ _ _ (by show k ≠ wr.heap.size; omega)), ((T1.out.2.1.trans (hb5.mono hg)).setCell (p := ⟨wr.heap.size, 1, none⟩) (Nat.le_trans hg (Nat.le_of_lt hgl)) _), R_set (p := ⟨wr.heap.size, 1, none⟩) rfl (R_keep2 T1.out.2.2.1 hk5) _, blk_put hx5 1 _ rfl⟩)
    clear h5 hk5 hb5 hx5 HX1 T1
    generalize hU2 : numR b u1_.2.1 u1_.2.2 1 = u2_ at HU2
    have HX2 := zA hU2
    clear hU2
    go_wp2_with fail
    refine (rnum_j g _ b u1_.2.1 u1_.2.2 1 T2.out.1 HO.out).mono ?_
    rw [HX2.out]
    rintro e V2 ⟨rfl, h5, hk5, hb5⟩
    have hx5 := hk5.blk T2.out.2.2.2 hne (by simp)
    have f5 := zF hx5 2
    have s5 : V2.cell? ⟨wr.heap.size, 2, none⟩ = some (.int .i64 0) := (zC hx5 2).trans rfl
    have T3 := zA (show RJ (V2.setCell ⟨wr.heap.size, 2, none⟩ (.int .i64 u2_.1)) g b u2_.2.1 u2_.2.2 ∧ Below w.heap.size w (V2.setCell ⟨wr.heap.size, 2, none⟩ (.int .i64 u2_.1)) ∧ Kd.R PBx.k41 41 (V2.setCell ⟨wr.heap.size, 2, none⟩ (.int .i64 u2_.1)) w.heap.size (okr g wr.heap.size) (.slice A2 l.length c2) l ∧ (V2.setCell ⟨wr.heap.size, 2, none⟩ (.int .i64 u2_.1)).heap[wr.heap.size]? = some (.cells #[.string u0_.1, .int .i64 u1_.1, .int .i64 u2_.1, .int .i64 0, .int .i64 0] 41 (0, 0)) from
     ⟨h5.le (fun k hk => Below.heap_setCell _ _ _ _ (by show k ≠ wr.heap.size; omega)), ((T2.out.2.1.trans (hb5.mono hg)).setCell (p := ⟨wr.heap.size, 2, none⟩) (Nat.le_trans hg (Nat.le_of_lt hgl)) _), R_set (p := ⟨wr.heap.size, 2, none⟩) rfl (R_keep2 T2.out.2.2.1 hk5) _, blk_put hx5 2 _ rfl⟩)
    clear h5 hk5 hb5 hx5 HX2 T2
    generalize hU3 : numR b u2_.2.1 u2_.2.2 1 = u3_ at HU2
    have HX3 := zA hU3
    clear hU3
    go_wp2_with fail
    refine (rnum_j g _ b u2_.2.1 u2_.2.2 1 T3.out.1 HO.out).mono ?_
    rw [HX3.out]
    rintro e V3 ⟨rfl, h5, hk5, hb5⟩
    have hx5 := hk5.blk T3.out.2.2.2 hne (by simp)
    have f5 := zF hx5 3
    have s5 : V3.cell? ⟨wr.heap.size, 3, none⟩ = some (.int .i64 0) := (zC hx5 3).trans rfl
    have T4 := zA (show RJ (V3.setCell ⟨wr.heap.size, 3, none⟩ (.int .i64 u3_.1)) g b u3_.2.1 u3_.2.2 ∧ Below w.heap.size w (V3.setCell ⟨wr.heap.size, 3, none⟩ (.int .i64 u3_.1)) ∧ Kd.R PBx.k41 41 (V3.setCell ⟨wr.heap.size, 3, none⟩ (.int .i64 u3_.1)) w.heap.size (okr g wr.heap.size) (.slice A2 l.length c2) l ∧ (V3.setCell ⟨wr.heap.size, 3, none⟩ (.int .i64 u3_.1)).heap[wr.heap.size]? = some (.cells #[.string u0_.1, .int .i64 u1_.1, .int .i64 u2_.1, .int .i64 u3_.1, .int .i64 0] 41 (0, 0)) from
     ⟨h5.le (fun k hk => Below.heap_setCell _ _ _ _ (by show k ≠ wr.heap.size; omega)), ((T3.out.2.1.trans (hb5.mono hg)).setCell (p := ⟨wr.heap.size, 3, none⟩) (Nat.le_trans hg (Nat.le_of_lt hgl)) _), R_set (p := ⟨wr.heap.size, 3, none⟩) rfl (R_keep2 T3.out.2.2.1 hk5) _, blk_put hx5 3 _ rfl⟩)
    clear h5 hk5 hb5 hx5 HX3 T3
    generalize hU4 : numR b u3_.2.1 u3_.2.2 8 = u4_ at HU2
    have HX4 := zA hU4
    clear hU4
    go_wp2_with fail
    refine (rnum_j g _ b u3_.2.1 u3_.2.2 8 T4.out.1 HO.out).mono ?_
    rw [HX4.out]
    rintro e V4 ⟨rfl, h5, hk5, hb5⟩
    have hx5 := hk5.blk T4.out.2.2.2 hne (by simp)
    have f5 := zF hx5 4
    have s5 : V4.cell? ⟨wr.heap.size, 4, none⟩ = some (.int .i64 0) := (zC hx5 4).trans rfl
    have T5 := zA (show RJ (V4.setCell ⟨wr.heap.size, 4, none⟩ (.int .i64 u4_.1)) g b u4_.2.1 u4_.2.2 ∧ Below w.heap.size w (V4.setCell ⟨wr.heap.size, 4, none⟩ (.int .i64 u4_.1)) ∧ Kd.R PBx.k41 41 (V4.setCell ⟨wr.heap.size, 4, none⟩ (.int .i64 u4_.1)) w.heap.size (okr g wr.heap.size) (.slice A2 l.length c2) l ∧ (V4.setCell ⟨wr.heap.size, 4, none⟩ (.int .i64 u4_.1)).heap[wr.heap.size]? = some (.cells #[.string u0_.1, .int .i64 u1_.1, .int .i64 u2_.1, .int .i64 u3_.1, .int .i64 u4_.1] 41 (0, 0)) from
     ⟨h5.le (fun k hk => Below.heap_setCell _ _ _ _ (by show k ≠ wr.heap.size; omega)), ((T4.out.2.1.trans (hb5.mono hg)).setCell (p := ⟨wr.heap.size, 4, none⟩) (Nat.le_trans hg (Nat.le_of_lt hgl)) _), R_set (p := ⟨wr.heap.size, 4, none⟩) rfl (R_keep2 T4.out.2.2.1 hk5) _, blk_put hx5 4 _ rfl⟩)
    clear h5 hk5 hb5 hx5 HX4 T4
    have hx5 := T5.out.2.2.2
    have q0 : (V4.setCell ⟨wr.heap.size, 4, none⟩ (.int .i64 u4_.1)).cell? ⟨wr.heap.size, 0, none⟩ = some (.string u0_.1) := (zC hx5 0).trans rfl
    have q1 : (V4.setCell ⟨wr.heap.size, 4, none⟩ (.int .i64 u4_.1)).cell? ⟨wr.heap.size, 1, none⟩ = some (.int .i64 u1_.1) := (zC hx5 1).trans rfl
    have q2 : (V4.setCell ⟨wr.heap.size, 4, none⟩ (.int .i64 u4_.1)).cell? ⟨wr.heap.size, 2, none⟩ = some (.int .i64 u2_.1) := (zC hx5 2).trans rfl
    have q3 : (V4.setCell ⟨wr.heap.size, 4, none⟩ (.int .i64 u4_.1)).cell? ⟨wr.heap.size, 3, none⟩ = some (.int .i64 u3_.1) := (zC hx5 3).trans rfl
    have q4 : (V4.setCell ⟨wr.heap.size, 4, none⟩ (.int .i64 u4_.1)).cell? ⟨wr.heap.size, 4, none⟩ = some (.int .i64 u4_.1) := (zC hx5 4).trans rfl
    clear hx5
    go_wp2_with ((with_reducible refine gate_builtin (b := .append) (xs := #[.tmp 37, .tmp 39]) rfl ?_); at_builtin; refine Kd.R_append PBx.k41 (w0 := w) w.heap.size rfl (.tmp 37) (.tmp 39) 23 41 (.agg #[.string ⟨#[]⟩, .int .i64 0, .int .i64 0, .int .i64 0, .int .i64 0]) 48 rfl Tryd.underlying23 (by kernel_rfl) rfl (by decide) (by omega) (.slice A2 l.length c2) l (⟨u0_.1, u1_.1, u2_.1, u3_.1, u4_.1⟩ : SV) [.string u0_.1, .int .i64 u1_.1, .int .i64 u2_.1, .int .i64 u3_.1, .int .i64 u4_.1] (okr g wr.heap.size) (fun _ => False) rfl (by first | (go_simp; done) | (go_simp; rfl)) ?aP (fun _ hk => hk.elim) ?aF ?aO ?aB ?aS ?aL ?_; (case aP => exact PBx.k41_mkM _ _ _ (⟨u0_.1, u1_.1, u2_.1, u3_.1, u4_.1⟩ : SV)); (case aB => exact T5.out.2.1); (case aF => exact fun k hk => okr_new (Nat.lt_of_lt_of_le T5.out.1.ltS hk) (Nat.lt_of_lt_of_le (blk_lt T5.out.2.2.2) hk)); (case aO => exact T5.out.2.2.1); (case aS => exact T5.out.2.1.size); (case aL => have := HL.out; omega); intro v7 W7 ho7 hb7 hg7 hat7; have HI7 := zA (And.intro (T5.out.1.grown hg7 (fun k e => (T5.out.2.2.1.1 k e).1)) hb7); have HV7 := zA (Kd.R_mono ho7 (fun k hk => hk.1)); clear hg7 hat7 ho7 hb7)
    refine ⟨⟨j + 1, _, _, l ++ [(⟨u0_.1, u1_.1, u2_.1, u3_.1, u4_.1⟩ : SV)], by omega, by push_cast; rfl, ⟨by rw [List.length_append, HL.out]; rfl⟩, HV7, HI7, ⟨HU2⟩⟩, ?_⟩
    rw [show intOf (.int .i64 ((j : Int) + 1)) = (j : Int) + 1 from rfl, show intOf (.int .i64 (j : Int)) = (j : Int) from rfl]
    omega
def r14_GetVars.f (b : List Int) : Option (List SV × Int) := if okB b = true then some (getR varR 64 b) else none
theorem r14_GetVars.calls (A0 : Option Addr) (c0 : Nat) (l0 : List Int) (r1 : List SV) (r2 : Int) (w : World) (hr0 : Kd.C (Kd.int .u8) w A0 l0.length l0) (hc0 : l0.length ≤ c0) (h : r14_GetVars.f l0 = some (r1, r2)) :
  Calls Tryd.prog 79 #[.slice A0 l0.length c0] w fun e w' => ∃ v0_ : Value, e = .returned (.tuple #[v0_, .int .i64 r2]) ∧ Kd.R PBx.k41 41 w' w.heap.size (fun _ => True) v0_ r1 ∧ Below w.heap.size w w' := by
 unfold r14_GetVars.f at h
 split at h
 ·rename_i hb
  have h := zJ h
  have HG := rvar_get A0 c0 l0 w hr0 hc0 hb
  rw [h] at HG
  exact HG
 ·cases h
end Go.Proofs.YtdbfgfgbjheibaaDoor.Given
end

section
/- What a reader tells of bytes that were put; any bytes. -/
namespace Go.Proofs.YtdbfgfgbjheibaaDoor.Given
set_option linter.unusedVariables false
set_option linter.unusedSimpArgs false
open Go.RowKit Go.Proofs.YtdbfgfgbjheibaaDoorW.PrintWords Go.Proofs.YtdbfgfgbjheibaaDoorW.PrintLast Go.Proofs.YtdbfgfgbjheibaaDoorW.PrintMore
theorem bytes_len (s : ByteArray) : (bytesOf s).length = s.size := by simp [bytesOf]
theorem wf8 {a : Int} (h : (Lit.int .u8 a).wf = true) : 0 ≤ a ∧ a < 256 := by
 unfold Lit.wf at h
 simp only [Bool.and_eq_true, decide_eq_true_eq, show IntKind.u8.min = 0 from rfl, show IntKind.u8.max = 255 from rfl] at h
 omega
theorem text_all (s : ByteArray) (h : s.size ≤ 255) : textOf s = s := by
 unfold textOf
 rw [Nat.min_eq_left h]
 simp
theorem bytes_str : ∀ l : List Int, (∀ x ∈ l, 0 ≤ x ∧ x < 256) → bytesOf (strOfNums l) = l := by
 intro l h
 unfold strOfNums bytesOf
 simp only [List.map_map]
 refine (List.map_congr_left (fun x hx => ?_)).trans (List.map_id _)
 have := h x hx
 simp
 omega
theorem str_size (l : List Int) : (strOfNums l).size = l.length := by simp [strOfNums, ByteArray.size]
theorem le_leN : ∀ l : List Int, (∀ x ∈ l, 0 ≤ x ∧ x < 256) → l.length ≤ 2 → le l.length (leN l) = l
 | [], _, _ => rfl
 | [a], h, _ => by
  have := h a (by simp)
  simp [le, leN, sh]
  omega
 | [a, b], h, _ => by
  have h1 := h a (by simp)
  have h2 := h b (by simp)
  simp [le, leN, sh]
  omega
 | _ :: _ :: _ :: _, _, h => by simp at h
theorem leN_small (l : List Int) (h : ∀ x ∈ l, 0 ≤ x ∧ x < 256) (hl : l.length ≤ 2) : 0 ≤ leN l ∧ leN l < 65536 := by
 match l, hl with
 | [], _ => simp [leN]
 | [a], _ => have := h a (by simp); simp [leN]; omega
 | [a, b], _ => have h1 := h a (by simp); have h2 := h b (by simp); simp [leN]; omega
 | _ :: _ :: _ :: _, h => simp at h
/-- What was told of a number: the bytes are there. -/
theorem num_inv {b : List Int} (hb : ∀ x ∈ b, 0 ≤ x ∧ x < 256) {at_ : Int} {many : Int} {m : Nat} (hm : mx 0 (mn many 8) = m) (hm2 : m ≤ 2) (h0 : 0 ≤ at_) (h1 : at_ ≤ b.length) (h : (numR b at_ false many).2.2 = false) :
  (numR b at_ false many).2.1 = at_ + m ∧ at_ + m ≤ b.length ∧ 0 ≤ (numR b at_ false many).1 ∧ (numR b at_ false many).1 < 2 ^ (8 * m) ∧ b.drop at_.toNat = le m (numR b at_ false many).1 ++ b.drop (at_ + m).toNat := by
 unfold numR at h ⊢
 rw [hm] at h ⊢
 by_cases hk : okR b at_ false m
 ·rw [if_pos hk]
  obtain ⟨_, _, hk⟩ := hk
  have hl : (cutR b at_ m).length = m := by unfold cutR; simp; omega
  have hc : ∀ x ∈ cutR b at_ m, 0 ≤ x ∧ x < 256 := fun x hx => hb x (List.mem_of_mem_drop (List.mem_of_mem_take hx))
  have hs := leN_small _ hc (by omega)
  have hs2 := (leN_lim _ hc).2
  rw [hl] at hs2
  have hw : wrap64 (leN (cutR b at_ m)) = leN (cutR b at_ m) := by unfold wrap64; omega
  refine ⟨rfl, by omega, by dsimp only; rw [hw]; exact hs.1, by dsimp only; rw [hw]; exact hs2, ?_⟩
  dsimp only
  rw [hw]
  have := le_leN _ hc (by omega)
  rw [hl] at this
  rw [this]
  unfold cutR
  rw [show (at_ + (m : Int)).toNat = at_.toNat + (m : Int).toNat by omega, ← List.drop_drop, List.take_append_drop]
 ·rw [if_neg hk] at h
  cases h
theorem take_inv {b : List Int} {at_ n : Int} (h0 : 0 ≤ at_) (h1 : at_ ≤ b.length) (h : (takeR b at_ false n).2.2 = false) :
  (takeR b at_ false n).2.1 = at_ + n ∧ 0 ≤ n ∧ at_ + n ≤ b.length ∧ ((takeR b at_ false n).1.length : Int) = n ∧ b.drop at_.toNat = (takeR b at_ false n).1 ++ b.drop (at_ + n).toNat := by
 unfold takeR at h ⊢
 by_cases hk : okR b at_ false n
 ·rw [if_pos hk]
  obtain ⟨_, hk0, hk⟩ := hk
  refine ⟨rfl, hk0, by omega, by dsimp only; unfold cutR; simp; omega, ?_⟩
  dsimp only
  unfold cutR
  rw [show (at_ + n).toNat = at_.toNat + n.toNat by omega, ← List.drop_drop, List.take_append_drop]
 ·rw [if_neg hk] at h
  cases h
theorem take_mem' {b : List Int} {at_ : Int} {bad : Bool} {n : Int} : ∀ x ∈ (takeR b at_ bad n).1, x ∈ b := by
 intro x hx
 unfold takeR at hx
 split at hx
 ·exact List.mem_of_mem_drop (List.mem_of_mem_take hx)
 ·cases hx
theorem num_bad_true (b : List Int) (at_ many : Int) : numR b at_ true many = (0, at_, true) := by
 unfold numR
 rw [if_neg (fun h => by cases h.1)]
theorem take_bad_true (b : List Int) (at_ n : Int) : takeR b at_ true n = ([], at_, true) := by
 unfold takeR
 rw [if_neg (fun h => by cases h.1)]
theorem text_inv {b : List Int} (hb : ∀ x ∈ b, 0 ≤ x ∧ x < 256) {at_ : Int} (h0 : 0 ≤ at_) (h1 : at_ ≤ b.length) (h : (textR b at_ false).2.2 = false) :
  (textR b at_ false).1.size ≤ 255 ∧ (textR b at_ false).2.1 = at_ + 1 + (textR b at_ false).1.size ∧ at_ + 1 + (textR b at_ false).1.size ≤ b.length ∧ b.drop at_.toNat = le 1 ((textR b at_ false).1.size : Int) ++ bytesOf (textR b at_ false).1 ++ b.drop (textR b at_ false).2.1.toNat := by
 unfold textR at h ⊢
 dsimp only at h ⊢
 have hn := num_inv hb (at_ := at_) (many := 1) (m := 1) (by decide) (by decide) h0 h1
 generalize numR b at_ false 1 = t at h hn ⊢
 cases hq : t.2.2 with
 | true => rw [hq, take_bad_true] at h; cases h
 | false =>
  obtain ⟨e1, e2, e3, e4, e5⟩ := hn hq
  rw [hq, e1] at h
  have hm := take_mem' (b := b) (at_ := at_ + (1 : Nat)) (bad := false) (n := t.1)
  have hi := take_inv (by omega) e2 h
  rw [e1]
  generalize takeR b (at_ + (1 : Nat)) false t.1 = u at h hi hm ⊢
  obtain ⟨f1, f2, f3, f4, f5⟩ := hi
  have hp : (2 : Int) ^ (8 * 1) = 256 := rfl
  rw [hp] at e4
  rw [str_size, f1, bytes_str _ (fun x hx => hb x (hm x hx))]
  refine ⟨by omega, by omega, by omega, ?_⟩
  rw [e5, f5, ← f4, ← List.append_assoc]
end Go.Proofs.YtdbfgfgbjheibaaDoor.Given
end

section
/- The document's reader's contract as printed texts call it; any reader of bytes that is not past its end. -/
namespace Go.Proofs.YtdbfgfgbjheibaaDoor.Given
set_option linter.unusedVariables false
open Go.RowKit Go.Proofs.YtdbfgfgbjheibaaDoorW.PrintWords Go.Proofs.YtdbfgfgbjheibaaDoorW.PrintLast Go.Proofs.YtdbfgfgbjheibaaDoorW.PrintMore
def r03_Reader_Num.f (s0_0 : List Int) (s0_1 : Int) (s0_2 : Bool) (a1 : Int) : Option (Int × Int × Bool) := if okB s0_0 = true then some (numR s0_0 s0_1 s0_2 a1) else none
theorem r03_Reader_Num.calls (g : Nat) (s0_0 : List Int) (s0_1 : Int) (s0_2 : Bool) (a1 : Int) (r1 : Int) (r2 : Int) (r3 : Bool) (w0 w : World) (hI : IsS71 w0 w g s0_0 s0_1 s0_2) (hB : Below w0.heap.size w0 w) (h : r03_Reader_Num.f s0_0 s0_1 s0_2 a1 = some (r1, r2, r3)) :
  Calls Tryd.prog 41 #[.pointer (some ⟨g, 0, none⟩), .int .i64 a1] w fun e w' => e = .returned (.int .i64 r1) ∧ IsS71 w0 w' g s0_0 r2 r3 ∧ Below w0.heap.size w0 w' ∧ KeepBut w w' g none := by
 unfold r03_Reader_Num.f at h
 split at h
 ·rename_i hb
  have h := zJ h
  have := rnum_calls g w0 w s0_0 s0_1 s0_2 a1 hI hB hb
  rw [h] at this
  exact this
 ·cases h
end Go.Proofs.YtdbfgfgbjheibaaDoor.Given
end

section
/- Printed by a program of this session (wip/pg.py, over the print of the kit): functions, their Lean twins, and the proofs that the calls come to them; each under the conditions that it names. -/
namespace Go.Proofs.YtdbfgfgbjheibaaDoor.PTyp
open Go.Proofs.YtdbfgfgbjheibaaDoor.Given
open Go.RowKit Go.Proofs.YtdbfgfgbjheibaaDoorW.PrintWords Go.Proofs.YtdbfgfgbjheibaaDoorW.PrintLast Go.Proofs.YtdbfgfgbjheibaaDoorW.PrintMore
attribute [local go_sem] max2_int min2_int max_two min_two max_three min_three max_four min_four   -- for this text's walks alone
set_option linter.unusedVariables false
set_option linter.unusedSimpArgs false



def errW : Option Int → Value
 | none => .nilIface
 | some c => .iface 0 (.int .i64 c)
theorem errW_none : errW none = .nilIface := rfl
theorem errW_some (c : Int) : errW (some c) = .iface 0 (.int .i64 c) := rfl

theorem info3 : (Tryd.prog.info? 3).map (fun i => (i.zero, i.size, i.bytes)) = some (some (.int .i64 0), 1, 8) := by kernel_rfl
-- the values' own types

end Go.Proofs.YtdbfgfgbjheibaaDoor.PTyp
end

section
/- Printed by a program of this session (wip/pg.py, over the print of the kit): functions, their Lean twins, and the proofs that the calls come to them; each under the conditions that it names. -/
namespace Go.Proofs.YtdbfgfgbjheibaaDoor.PTyp
open Go.Proofs.YtdbfgfgbjheibaaDoor.Given
open Go.RowKit Go.Proofs.YtdbfgfgbjheibaaDoorW.PrintWords Go.Proofs.YtdbfgfgbjheibaaDoorW.PrintLast Go.Proofs.YtdbfgfgbjheibaaDoorW.PrintMore
attribute [local go_sem] max2_int min2_int max_two min_two max_three min_three max_four min_four   -- for this text's walks alone
set_option linter.unusedVariables false
set_option linter.unusedSimpArgs false

/-! ### r03_held: function 73 -/
def r03_held.f (a0 : Int) : Option (Int) := if a0 < 0 then (some 0) else (if a0 > 8 then (some 8) else (some a0))
-- NOT PRINTED: function 77 (r03_Reader_Take)


/-! ### r15_types: function 113 -/
def r15_types.l0 : Nat → Int → List Int → Int → List Int → Int → Bool → Option (List Int × Int × Bool)
 | 0, _, _, _, _, _, _ => none
 | k + 1, x1, x5, x6, x1000, x1001, x1002 => if x6 < x1 then ((r03_Reader_Num.f x1000 x1001 x1002 1).bind fun bt101 => (if x5.length < 17592186044416 then (r15_types.l0 k x1 (x5 ++ [bt101.1]) (wrap64 (x6 + 1)) x1000 bt101.2.1 bt101.2.2) else (none))) else (some (x5, x1001, x1002))
def r15_types.f (k : Nat) (s0_0 : List Int) (s0_1 : Int) (s0_2 : Bool) (a1 : Int) : Option (List Int × Int × Bool) := r15_types.l0 k a1 ([] : List Int) 0 s0_0 s0_1 s0_2
set_option maxHeartbeats 8000000 in
set_option maxRecDepth 100000 in
theorem r15_types.calls (k : Nat) (g : Nat) (s0_0 : List Int) (s0_1 : Int) (s0_2 : Bool) (a1 : Int) (r1 : List Int) (r2 : Int) (r3 : Bool) (w0 w : World) (hI : IsS71 w0 w g s0_0 s0_1 s0_2) (hB : Below w0.heap.size w0 w) (h : r15_types.f k s0_0 s0_1 s0_2 a1 = some (r1, r2, r3)) :
  Calls Tryd.prog 113 #[.pointer (some ⟨g, 0, none⟩), .int .i64 a1] w fun e w' => ∃ v0_ : Value, e = .returned (v0_) ∧ Kd.R (Kd.int .i64) 3 w' w.heap.size (fun _ => True) v0_ r1 ∧ IsS71 w0 w' g s0_0 r2 r3 ∧ Below w0.heap.size w0 w' ∧ KeepBut w w' g none := by
 have HI0 := zA hI
 have HK := zA (KeepBut.refl w g none)
 have HL := zA hB.size
 clear hI
 have HW0 := zA hB.size
 have HB := zA hB
 clear hB
 have H : (r15_types.l0 k a1 ([] : List Int) 0 s0_0 s0_1 s0_2) = some (r1, r2, r3) := h
 clear h
 have H' := zA H
 clear H
 go_enter Tryd.func113, Tryd.ntmps113
 go_wp2
 go_loopg [5, 6] k (fun kq v5 v6 w' => ∃ (x5_1 : List Int) (x6_1 : Int) (x1001_1 : Int) (x1002_1 : Bool), v6 = .int .i64 x6_1 ∧ Aside0 (r15_types.l0 kq a1 x5_1 x6_1 s0_0 x1001_1 x1002_1 = some (r1, r2, r3)) ∧ Aside0 (kq ≤ k) ∧ Aside0 (Kd.R (Kd.int .i64) 3 w' w.heap.size (fun _ => True) v5 x5_1) ∧ Aside0 (IsS71 w0 w' g s0_0 x1001_1 x1002_1) ∧ Aside0 (KeepBut w w' g none) ∧ Aside0 (Below w0.heap.size w0 w'))
 case atStart => exact ⟨(([] : List Int)), (0), (s0_1), (s0_2), (by first | rfl | (simp; done) | (simp [*]; done)), H', ⟨z5 _⟩, ⟨by first | exact Kd.R_nil _ _ _ _ _ | exact Kd.N_nil _ _ _ _ _ | exact Kd.V_nil _ _ _ _ _ | exact Kd.Q_nil _ _ _ _ _ | exact Kd.S_nil _ _ _ _ _⟩, ⟨by repeat (first | (with_reducible first | exact HI0.out | apply IsS71.alloc | apply IsS71.drewN | apply IsS71.drew | apply IsS71.set_1 | apply IsS71.set_2) | exact HI0.out)⟩, ⟨by repeat (first | (with_reducible first | exact HK.out | apply KeepBut.set_ | apply keep_drewN | apply keep_drew | apply keep_alloc) | exact HK.out)⟩, ⟨by repeat (first | (with_reducible first | exact HB.out | apply zB | apply zN | apply below_drew1 | refine zE ?_ (IsS71.ge HI0.out)) | exact HB.out)⟩⟩
 case round =>
  clear H'
  try clear c1
  try clear p2
  obtain ⟨x5_1, x6_1, x1001_1, x1002_1, rfl, HA, HK1, HO_5, HI0, HK, HB⟩ := hrel
  cases gk with
  | zero => exact absurd HA.out (by simp [r15_types.l0])
  | succ k1 =>
   have H := HA.out
   clear HA
   simp only [r15_types.l0] at H
   by_cases c3 : x6_1 < a1
   ·rw [if_pos c3] at H
    have c3b0 : decide (x6_1 < a1) = true := decide_eq_true c3
    clear c3
    replace H := Option.bind_eq_some_iff.mp H
    obtain ⟨⟨t101, t102, t103⟩, A40, H⟩ := H
    replace H : (if x5_1.length < 17592186044416 then (r15_types.l0 k1 a1 (x5_1 ++ [t101]) (wrap64 (x6_1 + 1)) s0_0 t102 t103) else (none)) = some (r1, r2, r3) := H
    have A4 := zA A40
    clear A40
    by_cases c5 : x5_1.length < 17592186044416
    ·rw [if_pos c5] at H
     have LMc5 := zA c5
     clear c5
     obtain ⟨y104, hy104⟩ : ∃ y_ : List Int, y_ = (x5_1 ++ [t101]) := ⟨_, rfl⟩
     replace H : (r15_types.l0 k1 a1 y104 (wrap64 (x6_1 + 1)) s0_0 t102 t103) = some (r1, r2, r3) := by first | (rw [hy104]; with_reducible exact H) | (have H2_ := (zP _ _).symm.trans H; rw [hy104]; with_reducible exact H2_) | (have H2_ := (zP _ _).symm.trans H; with_reducible exact H2_) | with_reducible exact H | (rw [hy104]; exact H) | exact H
     have Ny104 := zA hy104
     clear hy104
     have H' := zA H
     clear H
     go_wp2_with (first | ((with_reducible refine gate_callee (f := 41) rfl ?_); refine goesL_ (some 14) rfl rfl Tryd.func41 (by kernel_rfl) rfl #[.pointer (some ⟨g, 0, none⟩), .int .i64 1] rfl (by (try simp only [zm, zc, zn]); first | done | rfl | (simp only [zd, zt]; rfl)) ?_; (with_reducible refine (r03_Reader_Num.calls g s0_0 x1001_1 x1002_1 1 t101 t102 t103 w0 _ ?side1 ?side2 A4.out).mono ?_); (case side1 => repeat (first | (with_reducible first | exact HI0.out | apply IsS71.alloc | apply IsS71.drewN | apply IsS71.drew | apply IsS71.set_1 | apply IsS71.set_2) | exact HI0.out)); (case side2 => repeat (first | (with_reducible first | exact HB.out | apply zB | apply zN | apply below_drew1 | refine zE ?_ (IsS71.ge HI0.out)) | exact HB.out)); rintro e w6 ⟨rfl, hi, hb, hk⟩; refine ⟨_, rfl, ?_⟩; replace HO_5 := zA (Kd.R_mono (Kd.R_keep (IsS71.apart (show IsS71 w0 _ g s0_0 x1001_1 x1002_1 from by repeat (first | (with_reducible first | exact HI0.out | apply IsS71.alloc | apply IsS71.drewN | apply IsS71.drew | apply IsS71.set_1 | apply IsS71.set_2) | exact HI0.out)) (by (with_reducible repeat (first | apply zR | apply zS | apply zT)); exact HO_5.out) (by decide)) hk (fun _ h => h.2)) (fun _ h => h.1)); replace HK := zA (KeepBut.trans (by repeat (first | (with_reducible first | exact HK.out | apply KeepBut.set_ | apply keep_drewN | apply keep_drew | apply keep_alloc) | exact HK.out)) hk (.inl rfl)); replace HB := zA (hb); replace HI0 := zA (hi); (try clear hb); (try clear hb2); (try clear hk); (try clear hi)) | ((with_reducible refine gate_builtin (b := .append) (xs := #[.tmp 12, .tmp 15]) rfl ?_); at_builtin; refine Kd.R_append (Kd.int .i64) w.heap.size rfl (.tmp 12) (.tmp 15) 45 3 (.int .i64 0) 8 rfl Tryd.underlying45 info3 rfl (by decide) (by omega) u5 x5_1 t101 [.int .i64 t101] (fun _ => True) (fun _ => False) rfl rfl ?aP (fun _ hk => hk.elim) ?aF ?aO (zX _ _) ?aS ?aL ?_; (case aP => exact rfl); (case aF => exact (fun _ _ => trivial)); (case aO => exact (by (with_reducible repeat (first | apply zR | apply zS | apply zT)); exact HO_5.out)); (case aS => exact (keep_size (w := w) (g := g) (row := none) (by repeat (first | (with_reducible first | exact HK.out | apply KeepBut.set_ | apply keep_drewN | apply keep_drew | apply keep_alloc) | exact HK.out)))); (case aL => have := LMc5.out; omega); intro v105 w7 ho hb hg hat; rw [← Ny104.out] at ho; replace HB := zA (below_weaken (by repeat (first | (with_reducible first | exact HB.out | apply zB | apply zN | apply below_drew1 | refine zE ?_ (IsS71.ge HI0.out)) | exact HB.out)) HL.out hb); replace HI0 := zA (IsS71.grown (by repeat (first | (with_reducible first | exact HI0.out | apply IsS71.alloc | apply IsS71.drewN | apply IsS71.drew | apply IsS71.set_1 | apply IsS71.set_2) | exact HI0.out)) hg (IsS71.own_ne HI0.out HO_5.out (by decide))); replace HK := zA (KeepBut.trans (by repeat (first | (with_reducible first | exact HK.out | apply KeepBut.set_ | apply keep_drewN | apply keep_drew | apply keep_alloc) | exact HK.out)) (KeepBut.of_grown hg g) (Kd.R_base2 HO_5.out)); have HO106 := zA (ho); clear HO_5; clear ho hb hg hat))
     go_roundg k1
     case measure => have := HK1.out; omega
     case rel => exact ⟨(y104), (wrap64 (x6_1 + 1)), (t102), (t103), (by first | rfl | (simp; done) | (simp [*]; done)), H', ⟨by have := HK1.out; omega⟩, ⟨by (with_reducible repeat (first | apply zR | apply zS | apply zT)); exact HO106.out⟩, ⟨by repeat (first | (with_reducible first | exact HI0.out | apply IsS71.alloc | apply IsS71.drewN | apply IsS71.drew | apply IsS71.set_1 | apply IsS71.set_2) | exact HI0.out)⟩, ⟨by repeat (first | (with_reducible first | exact HK.out | apply KeepBut.set_ | apply keep_drewN | apply keep_drew | apply keep_alloc) | exact HK.out)⟩, ⟨by repeat (first | (with_reducible first | exact HB.out | apply zB | apply zN | apply below_drew1 | refine zE ?_ (IsS71.ge HI0.out)) | exact HB.out)⟩⟩
    ·rw [if_neg c5] at H
     exact absurd H (by simp)
   ·rw [if_neg c3] at H
    have c3b0 : decide (x6_1 < a1) = false := decide_eq_false c3
    clear c3
    simp only [Option.some.injEq, Prod.mk.injEq] at H
    obtain ⟨rfl, rfl, rfl⟩ := H
    go_wp2
    go_ret
    exact ⟨_, by first | rfl | (simp [errW_none, errW_some] <;> rfl) | (simp [*, errW_none, errW_some] <;> rfl), by (with_reducible repeat (first | apply zR | apply zS | apply zT)); exact HO_5.out, by repeat (first | (with_reducible first | exact HI0.out | apply IsS71.alloc | apply IsS71.drewN | apply IsS71.drew | apply IsS71.set_1 | apply IsS71.set_2) | exact HI0.out), by repeat (first | (with_reducible first | exact HB.out | apply zB | apply zN | apply below_drew1 | refine zE ?_ (IsS71.ge HI0.out)) | exact HB.out), by repeat (first | (with_reducible first | exact HK.out | apply KeepBut.set_ | apply keep_drewN | apply keep_drew | apply keep_alloc) | exact HK.out)⟩

end Go.Proofs.YtdbfgfgbjheibaaDoor.PTyp
end

section
/- Bytes as a unit, as the document reads them, plainly: it is what the program reads. -/
namespace Go.Proofs.YtdbfgfgbjheibaaDoor.Given
open Go.RowKit Go.Proofs.YtdbfgfgbjheibaaDoorW.PrintWords Go.Proofs.YtdbfgfgbjheibaaDoorW.PrintLast Go.Proofs.YtdbfgfgbjheibaaDoorW.PrintMore
set_option linter.unusedVariables false
set_option linter.unusedSimpArgs false
/-- The next numbers of a byte, one by one; where the reader is, whether it's bad. -/
def typesF (b : List Int) : Nat → Int → Bool → List Int × Int × Bool
 | 0, a, d => ([], a, d)
 | k + 1, a, d =>
  let t := numR b a d 1
  let u := typesF b k t.2.1 t.2.2
  (t.1 :: u.1, u.2)
def typesR (b : List Int) (at_ : Int) (bad : Bool) (n : Int) : List Int × Int × Bool := typesF b n.toNat at_ bad
theorem typesF_bad (b : List Int) : ∀ k a, (typesF b k a true).2 = (a, true)
 | 0, a => rfl
 | k + 1, a => by
  unfold typesF
  dsimp only
  rw [num_bad_true]
  exact typesF_bad b k a
theorem num_one {b : List Int} (hb : ∀ x ∈ b, 0 ≤ x ∧ x < 256) {a : Int} (h0 : 0 ≤ a) (h1 : a < b.length) : numR b a false 1 = (b.getD a.toNat 0, a + 1, false) := by
 have hx := hb _ (List.getElem_mem (show a.toNat < b.length by omega))
 unfold numR
 rw [show mx 0 (mn 1 8) = 1 by decide, if_pos ⟨rfl, by omega, by omega⟩]
 have : cutR b a 1 = [b[a.toNat]'(by omega)] := by
  unfold cutR
  rw [show (1 : Int).toNat = 1 from rfl, List.drop_eq_getElem_cons (by omega)]
  rfl
 rw [this, List.getD_eq_getElem?_getD, List.getElem?_eq_getElem (by omega), Option.getD_some]
 have hw : wrap64 (leN [b[a.toNat]'(by omega)]) = b[a.toNat]'(by omega) := by
  show wrap64 (b[a.toNat]'(by omega) + 256 * 0) = _
  rw [wN _ (by omega) (by omega)]; omega
 rw [hw]
theorem num_none {b : List Int} {a : Int} (h1 : b.length ≤ a) : numR b a false 1 = (0, a, true) := by
 unfold numR
 rw [show mx 0 (mn 1 8) = 1 by decide, if_neg (fun h => by have := h.2.2; omega)]
theorem typesF_ok {b : List Int} (hb : ∀ x ∈ b, 0 ≤ x ∧ x < 256) : ∀ (k : Nat) (a : Int), 0 ≤ a → a + k ≤ b.length → typesF b k a false = ((b.drop a.toNat).take k, a + k, false)
 | 0, a, _, _ => by
  unfold typesF
  rw [List.take_zero]
  simp
 | k + 1, a, h0, h1 => by
  unfold typesF
  dsimp only
  rw [num_one hb h0 (by omega)]
  dsimp only
  rw [typesF_ok hb k (a + 1) (by omega) (by omega), List.drop_eq_getElem_cons (show a.toNat < b.length by omega), List.take_succ_cons, List.getD_eq_getElem?_getD, List.getElem?_eq_getElem (show a.toNat < b.length by omega), Option.getD_some, show (a + 1).toNat = a.toNat + 1 by omega]
  rw [show a + 1 + (k : Int) = a + ((k + 1 : Nat) : Int) by omega]
theorem typesF_short {b : List Int} (hb : ∀ x ∈ b, 0 ≤ x ∧ x < 256) : ∀ (k : Nat) (a : Int), 0 ≤ a → a ≤ b.length → ¬ a + k ≤ b.length → (typesF b k a false).2.2 = true
 | 0, a, h0, h1, h2 => absurd (show a + (0 : Nat) ≤ b.length by omega) h2
 | k + 1, a, h0, h1, h2 => by
  unfold typesF
  dsimp only
  by_cases h : a < b.length
  ·rw [num_one hb h0 h]
   exact typesF_short hb k (a + 1) (by omega) (by omega) (by omega)
  ·rw [num_none (by omega)]
   dsimp only
   rw [typesF_bad]
/-- The next numbers, if they are there, are what is taken; else the reader is bad. -/
theorem types_take {b : List Int} (hb : ∀ x ∈ b, 0 ≤ x ∧ x < 256) {a n : Int} (h0 : 0 ≤ a) (h1 : a ≤ b.length) (hn : 0 ≤ n) :
  ((takeR b a false n).2.2 = false → typesR b a false n = takeR b a false n) ∧ ((takeR b a false n).2.2 = true → (typesR b a false n).2.2 = true) := by
 unfold typesR takeR
 by_cases h : okR b a false n
 ·rw [if_pos h]
  refine ⟨fun _ => ?_, fun h => by cases h⟩
  obtain ⟨_, _, h2⟩ := h
  rw [typesF_ok hb n.toNat a h0 (by omega)]
  unfold cutR
  rw [show a + (n.toNat : Int) = a + n by omega]
 ·rw [if_neg h]
  refine ⟨fun h => by (cases h), fun _ => typesF_short hb n.toNat a h0 h1 (fun h3 => h ⟨rfl, hn, by omega⟩)⟩
/-- Bytes as a unit, and the error, as the document reads them. -/
def refR (b : List Int) : UD × Int :=
 let t := textR b 0 false
 let n := numR b t.2.1 t.2.2 1
 if n.2.2 = true then (zeroU, 1) else
 if n.1 > 8 then (zeroU, 5) else
 let p := typesR b n.2.1 n.2.2 n.1
 let r := numR b p.2.1 p.2.2 1
 let m := numR b r.2.1 r.2.2 2
 if m.2.2 = true then (zeroU, 1) else
 if m.1 > 1024 then (zeroU, 5) else
 let l := typesR b m.2.1 m.2.2 m.1
 let q := numR b l.2.1 l.2.2 2
 if q.2.2 = true then (zeroU, 1) else
 if q.1 > 16384 then (zeroU, 5) else
 let x := takeR b q.2.1 q.2.2 (wrap64 (5 * q.1))
 if x.2.2 = true then (zeroU, 1) else
 let c := decF x.1.length x.1 []
 if ¬ c.2.2 = 0 then (zeroU, c.2.2) else
 if (b.length : Int) - x.2.1 > 0 then (zeroU, 4) else
 ((t.1, p.1, r.1, l.1, c.1.map conv), 0)
/-- The numbers behind how many they are: as they are taken. -/
theorem numbers_of {b : List Int} {at_ : Int} {bad : Bool} {many most : Int} (n : Int × Int × Bool) (hn : numR b at_ bad many = n) :
  numbersR b at_ bad many most = if n.1 > most then ([], 5, n.2.1, n.2.2) else (if (takeR b n.2.1 n.2.2 n.1).2.2 = true then ([], 1, (takeR b n.2.1 n.2.2 n.1).2.1, (takeR b n.2.1 n.2.2 n.1).2.2) else ((takeR b n.2.1 n.2.2 n.1).1, 0, (takeR b n.2.1 n.2.2 n.1).2.1, (takeR b n.2.1 n.2.2 n.1).2.2)) := by
 unfold numbersR
 rw [hn]
theorem num_zero {b : List Int} {at_ : Int} {bad : Bool} {many : Int} (h : (numR b at_ bad many).2.2 = true) : (numR b at_ bad many).1 = 0 := by
 unfold numR at h ⊢
 by_cases hk : okR b at_ bad (mx 0 (mn many 8))
 ·rw [if_pos hk] at h; cases h
 ·rw [if_neg hk]
theorem ref_get (b : List Int) (hb : ∀ x ∈ b, 0 ≤ x ∧ x < 256) (hl : b.length ≤ 1000000) : refR b = ugetR b := by
 unfold refR ugetR
 dsimp only
 have ht := text_inv hb (at_ := 0) (by omega) (by omega)
 generalize textR b 0 false = t at ht ⊢
 cases htb : t.2.2 with
 | true =>
  rw [num_bad_true]
  rw [if_pos rfl, if_pos rfl]
 | false =>
 rw [if_neg (show ¬ false = true by simp)]
 obtain ⟨t1, t2, t3, _⟩ := ht htb
 have hn := num_inv hb (at_ := t.2.1) (many := 1) (m := 1) (by decide) (by decide) (by omega) (by omega)
 have hn0 := num_zero (b := b) (at_ := t.2.1) (bad := false) (many := 1)
 rw [numbers_of (b := b) (at_ := t.2.1) (bad := false) (many := 1) (most := 8) _ rfl]
 generalize numR b t.2.1 false 1 = n at hn hn0 ⊢
 cases hnb : n.2.2 with
 | true =>
  rw [if_pos rfl, take_bad_true, if_neg (show ¬ n.1 > 8 by have := hn0 hnb; omega)]
  dsimp only
  rw [if_pos rfl]
  dsimp only
  rw [if_pos (by decide)]
 | false =>
 rw [if_neg (show ¬ false = true by simp)]
 obtain ⟨n1, n2, n3, _, _⟩ := hn hnb
 by_cases h8 : n.1 > 8
 ·rw [if_pos h8, if_pos h8]
  dsimp only
  rw [if_pos (by decide)]
 rw [if_neg h8, if_neg h8]
 have hp := types_take hb (a := n.2.1) (n := n.1) (by omega) (by omega) n3
 have hpi := take_inv (b := b) (at_ := n.2.1) (n := n.1) (by omega) (by omega)
 generalize typesR b n.2.1 false n.1 = P at hp ⊢
 generalize takeR b n.2.1 false n.1 = p at hp hpi ⊢
 cases hpb : p.2.2 with
 | true =>
  rw [if_pos rfl]
  dsimp only
  rw [if_pos (show ¬ (1 : Int) = 0 by decide), hp.2 hpb, num_bad_true]
  dsimp only
  rw [num_bad_true]
  rw [if_pos rfl]
 | false =>
 rw [if_neg (show ¬ false = true by simp)]
 dsimp only
 rw [if_neg (show ¬ ¬ (0 : Int) = 0 by decide), hp.1 hpb, hpb]
 obtain ⟨p1, p2, p3, _, _⟩ := hpi hpb
 clear hp hpi
 have hr := num_inv hb (at_ := p.2.1) (many := 1) (m := 1) (by decide) (by decide) (by omega) (by omega)
 generalize numR b p.2.1 false 1 = r at hr ⊢
 cases hrb : r.2.2 with
 | true =>
  rw [num_bad_true]
  rw [if_pos rfl, if_pos rfl]
 | false =>
 rw [if_neg (show ¬ false = true by simp)]
 obtain ⟨r1, r2, r3, _, _⟩ := hr hrb
 have hm := num_inv hb (at_ := r.2.1) (many := 2) (m := 2) (by decide) (by decide) (by omega) (by omega)
 have hm0 := num_zero (b := b) (at_ := r.2.1) (bad := false) (many := 2)
 rw [numbers_of (b := b) (at_ := r.2.1) (bad := false) (many := 2) (most := 1024) _ rfl]
 generalize numR b r.2.1 false 2 = m at hm hm0 ⊢
 cases hmb : m.2.2 with
 | true =>
  rw [if_pos rfl, take_bad_true, if_neg (show ¬ m.1 > 1024 by have := hm0 hmb; omega)]
  dsimp only
  rw [if_pos rfl]
  dsimp only
  rw [if_pos (by decide)]
 | false =>
 rw [if_neg (show ¬ false = true by simp)]
 obtain ⟨m1, m2, m3, _, _⟩ := hm hmb
 by_cases h1024 : m.1 > 1024
 ·rw [if_pos h1024, if_pos h1024]
  dsimp only
  rw [if_pos (by decide)]
 rw [if_neg h1024, if_neg h1024]
 have hp := types_take hb (a := m.2.1) (n := m.1) (by omega) (by omega) m3
 have hpi := take_inv (b := b) (at_ := m.2.1) (n := m.1) (by omega) (by omega)
 generalize typesR b m.2.1 false m.1 = L at hp ⊢
 generalize takeR b m.2.1 false m.1 = l at hp hpi ⊢
 cases hlb : l.2.2 with
 | true =>
  rw [if_pos rfl]
  dsimp only
  rw [if_pos (show ¬ (1 : Int) = 0 by decide), hp.2 hlb, num_bad_true]
  rw [if_pos rfl]
 | false =>
 rw [if_neg (show ¬ false = true by simp)]
 dsimp only
 rw [if_neg (show ¬ ¬ (0 : Int) = 0 by decide), hp.1 hlb, hlb]
 obtain ⟨l1, l2, l3, _, _⟩ := hpi hlb
 clear hp hpi
 have hq := num_inv hb (at_ := l.2.1) (many := 2) (m := 2) (by decide) (by decide) (by omega) (by omega)
 have hq0 := num_zero (b := b) (at_ := l.2.1) (bad := false) (many := 2)
 generalize numR b l.2.1 false 2 = q at hq hq0 ⊢
 cases hqb : q.2.2 with
 | true =>
  rw [if_pos rfl, take_bad_true, if_neg (show ¬ q.1 > 16384 by have := hq0 hqb; omega)]
  rw [if_pos rfl]
 | false =>
 rw [if_neg (show ¬ false = true by simp)]
 by_cases h16 : q.1 > 16384
 ·rw [if_pos h16, if_pos h16]
 rw [if_neg h16, if_neg h16]
 generalize takeR b q.2.1 false (wrap64 (5 * q.1)) = x
 cases hxb : x.2.2 with
 | true => rw [if_pos rfl, if_pos rfl]
 | false =>
 rw [if_neg (show ¬ false = true by simp), if_neg (show ¬ false = true by simp), if_neg (show ¬ false = true by simp)]
/-! ### The loop -/
theorem types_l0 (b : List Int) (hb : okB b = true) (n : Int) (hn : n ≤ 1000000) : ∀ (d : Nat) (i : Int) (k : Nat) (x : List Int) (a : Int) (bad : Bool), 0 ≤ i → (n - i).toNat = d → d < k → x.length + d ≤ 10000000 →
  PTyp.r15_types.l0 k n x i b a bad = some (x ++ (typesF b d a bad).1, (typesF b d a bad).2) := by
 intro d
 induction d with
 | zero =>
  intro i k x a bad h0 h1 h2 h3
  obtain ⟨k, rfl⟩ : ∃ m, k = m + 1 := ⟨k - 1, by omega⟩
  unfold PTyp.r15_types.l0 typesF
  rw [if_neg (by omega), List.append_nil]
 | succ d ih =>
  intro i k x a bad h0 h1 h2 h3
  obtain ⟨k, rfl⟩ : ∃ m, k = m + 1 := ⟨k - 1, by omega⟩
  unfold PTyp.r15_types.l0 r03_Reader_Num.f
  rw [if_pos (by omega), if_pos hb, zP, if_pos (by omega), wN _ (by omega) (by omega), ih (i + 1) k _ _ _ (by omega) (by omega) (by omega) (by simp only [List.length_append, List.length_cons, List.length_nil]; omega), List.append_assoc]
  rfl
theorem rtypes_calls (g : Nat) (w0 w : World) (b : List Int) (at_ : Int) (bad : Bool) (n : Int) (hn : n ≤ 1000000) (hI : IsS71 w0 w g b at_ bad) (hB : Below w0.heap.size w0 w) (hb : okB b = true) :
  Calls Tryd.prog 113 #[.pointer (some ⟨g, 0, none⟩), .int .i64 n] w fun e w' => ∃ v0_ : Value, e = .returned v0_ ∧ Kd.R (Kd.int .i64) 3 w' w.heap.size (fun _ => True) v0_ (typesR b at_ bad n).1 ∧ IsS71 w0 w' g b (typesR b at_ bad n).2.1 (typesR b at_ bad n).2.2 ∧ Below w0.heap.size w0 w' ∧ KeepBut w w' g none :=
 PTyp.r15_types.calls 1000001 g b at_ bad n _ _ _ w0 w hI hB (by
  unfold PTyp.r15_types.f typesR
  rw [types_l0 b hb n hn n.toNat 0 1000001 [] at_ bad (by omega) (by omega) (by omega) (by simp; omega)]
  rfl)
end Go.Proofs.YtdbfgfgbjheibaaDoor.Given
end

section
/- Bytes as a unit, as the document reads them: its call tells what the program's tells; bytes of at most 90000 in length. -/
namespace Go.Proofs.YtdbfgfgbjheibaaDoor.Given
open Go.RowKit Go.Proofs.YtdbfgfgbjheibaaDoorW.PrintWords Go.Proofs.YtdbfgfgbjheibaaDoorW.PrintLast Go.Proofs.YtdbfgfgbjheibaaDoorW.PrintMore
set_option linter.unusedVariables false
set_option linter.unusedSimpArgs false
theorem rdecode_calls (A : Option Addr) (c : Nat) (l : List Int) (r : List InS × Int × Int) (w : World) (hC : Kd.C (Kd.int .u8) w A l.length l) (hc : l.length ≤ c) (hl : l.length ≤ 90000) (hb : ∀ x ∈ l, 0 ≤ x ∧ x < 256) (hr : decF l.length l [] = r) :
  Calls Tryd.prog 114 #[.slice A l.length c] w fun e w' => ∃ v0_ : Value, e = .returned (.tuple #[v0_, .int .i64 r.2.1, .int .i64 r.2.2]) ∧ Kd.R inK 109 w' w.heap.size (fun _ => True) v0_ r.1 ∧ Below w.heap.size w w' := by
 refine PCod.r13_Decode.calls (2 * l.length + 10) A c l r.1 r.2.1 r.2.2 w hC hc ?_
 have := Pure.ref_dec l.length l [] [] (2 * l.length + 10) (z5 _) rfl (by simp; omega) hb (z5 _)
 rw [hr] at this
 exact this
theorem rd_bad {w0 W : World} {g : Nat} {b : List Int} {a : Int} {d : Bool} (h : IsS71 w0 W g b a d) : W.cell? ⟨g, 2, none⟩ = some (.bool d) := by
 obtain ⟨_, hb, _, _, _, rfl, _⟩ := h
 exact (zC hb 2).trans rfl
theorem rd_left {w0 W : World} {g : Nat} {b : List Int} {a : Int} {d : Bool} (h : IsS71 w0 W g b a d) : ∃ A n c, W.cell? ⟨g, 0, none⟩ = some (.slice A n c) ∧ (n : Int) = b.length - a := by
 obtain ⟨_, hb, _, A, c, rfl, _, _, h0, h1⟩ := h
 exact ⟨A, _, c, (zC hb 0).trans rfl, by simp; omega⟩
theorem rd_new {w0 W : World} {g : Nat} {b : List Int} {A : Option Addr} {c : Nat} (hb : W.heap[g]? = some (.cells #[.slice A b.length c, .int .i64 0, .bool false] 71 (0, 0))) (hg : w0.heap.size ≤ g) (hC : Kd.C (Kd.int .u8) w0 A b.length b) (hc : b.length ≤ c) : IsS71 w0 W g b 0 false :=
 ⟨_, hb, hg, A, c, rfl, hC, hc, Int.le_refl _, Int.natCast_nonneg _⟩
def RefPost (b : List Int) (w : World) (e : Ending) (w' : World) : Prop := ∃ cs : Array Value, e = .returned (.tuple #[.agg cs, .int .i64 (refR b).2]) ∧ UOk w' w.heap.size cs (refR b).1 ∧ Below w.heap.size w w'
theorem RefPost.zero {b : List Int} {w w' : World} {e : Ending} {v : Value} {c : Int} (hG : refR b = (zeroU, c)) (he : e = .returned (.tuple #[.agg #[.string ⟨#[]⟩, .slice none 0 0, .int .i64 0, .slice none 0 0, .slice none 0 0], .int .i64 c])) (hB : Below w.heap.size w w') : RefPost b w e w' := ⟨_, by rw [he, hG], by rw [hG]; exact zero_ok _ _, hB⟩
set_option maxHeartbeats 8000000 in
set_option maxRecDepth 100000 in
theorem rget_calls (A0 : Option Addr) (c0 : Nat) (b : List Int) (w : World) (hr0 : Kd.C (Kd.int .u8) w A0 b.length b) (hc0 : b.length ≤ c0) (hl : b.length ≤ 90000) (hb : okB b = true) :
  Calls Tryd.prog 104 #[.slice A0 b.length c0] w fun e w' => RefPost b w e w' := by
 have hi : (Tryd.prog.info? 48).map (·.size) = some 5 := by kernel_rfl
 obtain ⟨G, hG⟩ : ∃ G, refR b = G := ⟨_, rfl⟩
 have hG0 := hG
 unfold refR at hG
 dsimp only at hG
 have hT := fun g w0 w hI hB => rtext_calls g w0 w b 0 false hI hB hb
 generalize textR b 0 false = t at hG hT
 have hN := fun g w0 w hI hB => rnum_calls g w0 w b t.2.1 t.2.2 1 hI hB hb
 generalize numR b t.2.1 t.2.2 1 = n at hG hN
 have hP := fun h g w0 w hI hB => rtypes_calls g w0 w b n.2.1 n.2.2 n.1 h hI hB hb
 generalize typesR b n.2.1 n.2.2 n.1 = p at hG hP
 have hR := fun g w0 w hI hB => rnum_calls g w0 w b p.2.1 p.2.2 1 hI hB hb
 generalize numR b p.2.1 p.2.2 1 = r at hG hR
 have hM := fun g w0 w hI hB => rnum_calls g w0 w b r.2.1 r.2.2 2 hI hB hb
 generalize numR b r.2.1 r.2.2 2 = m at hG hM
 have hK := fun h g w0 w hI hB => rtypes_calls g w0 w b m.2.1 m.2.2 m.1 h hI hB hb
 generalize typesR b m.2.1 m.2.2 m.1 = l at hG hK
 have hQ := fun g w0 w hI hB => rnum_calls g w0 w b l.2.1 l.2.2 2 hI hB hb
 generalize numR b l.2.1 l.2.2 2 = q at hG hQ
 have hX := fun g w0 w hI hB => rtake_calls g w0 w b q.2.1 q.2.2 (wrap64 (5 * q.1)) hI hB hb
 have hxl := take_len (b := b) (at_ := q.2.1) (bad := q.2.2) (n := wrap64 (5 * q.1))
 have hxm := take_mem (b := b) (at_ := q.2.1) (bad := q.2.2) (n := wrap64 (5 * q.1))
 generalize takeR b q.2.1 q.2.2 (wrap64 (5 * q.1)) = x at hG hX hxl hxm
 have hD := fun A c w hC hc => rdecode_calls A c x.1 _ w hC hc (Nat.le_trans hxl hl) (fun y hy => (okB_all hb).1 y (hxm y hy)) rfl
 generalize decF x.1.length x.1 [] = c at hG hD
 have HT := zA hT
 have HN := zA hN
 have HP := zA hP
 have HR := zA hR
 have HM := zA hM
 have HK := zA hK
 have HQ := zA hQ
 have HX := zA hX
 have HD := zA hD
 have hG := zA hG
 have hG0 := zA hG0
 clear hT hN hP hR hM hK hQ hX hD hxl hxm
 have hW0 := (zX w.heap.size w).alloc (z5 _) (.cells #[.string ⟨#[]⟩, .slice none 0 0, .int .i64 0, .slice none 0 0, .slice none 0 0] 48)
 have HC0 := zA (zD hr0 hW0)
 have HC1 := zA hc0
 have hz0 := heap_alloc_new w (.cells #[.string ⟨#[]⟩, .slice none 0 0, .int .i64 0, .slice none 0 0, .slice none 0 0] 48)
 clear hr0 hl hb hc0
 go_enter Tryd.func104, Tryd.ntmps104
 go_wp2_with fail
 have hs7 : (w.alloc (.cells #[.string ⟨#[]⟩, .slice none 0 0, .int .i64 0, .slice none 0 0, .slice none 0 0] 48)).heap.size = w.heap.size + 1 := by simp
 generalize w.alloc (.cells #[.string ⟨#[]⟩, .slice none 0 0, .int .i64 0, .slice none 0 0, .slice none 0 0] 48) = w7 at hs7 HC0 hz0 hW0 ⊢
 rw [← hs7]
 have hI := (rd_new (heap_alloc_new w7 _) (z5 _) HC0.out HC1.out).alloc (.cells #[.string ⟨#[]⟩, .slice none 0 0, .int .i64 0, .slice none 0 0, .slice none 0 0] 48)
 have hB := ((zX w7.heap.size w7).alloc (z5 _) (.cells #[.slice A0 b.length c0, .int .i64 0, .bool false] 71)).alloc (by simp) (.cells #[.string ⟨#[]⟩, .slice none 0 0, .int .i64 0, .slice none 0 0, .slice none 0 0] 48)
 have hx := heap_alloc_new (w7.alloc (.cells #[.slice A0 b.length c0, .int .i64 0, .bool false] 71)) (.cells #[.string ⟨#[]⟩, .slice none 0 0, .int .i64 0, .slice none 0 0, .slice none 0 0] 48)
 rw [show (w7.alloc (.cells #[.slice A0 b.length c0, .int .i64 0, .bool false] 71)).heap.size = w7.heap.size + 1 by simp] at hx
 have HW := zA (show ∀ W, Below w7.heap.size w7 W → Below w.heap.size w W from fun W h => hW0.trans (h.mono hW0.size))
 have HSZ : w.heap.size ≤ w7.heap.size := by omega
 have HZ := zA (show ∀ W, Below w7.heap.size w7 W → W.heap[w.heap.size]? = some (.cells #[.string ⟨#[]⟩, .slice none 0 0, .int .i64 0, .slice none 0 0, .slice none 0 0] 48 (0, 0)) from fun W h => (h.block w.heap.size (by omega)).trans hz0)
 have hgb : w7.heap.size ≠ w7.heap.size + 1 := by omega
 have hgb7 : w7.heap.size ≤ w7.heap.size + 1 := by omega
 clear hW0 hz0 HC0 HC1 hs7
 generalize (w7.alloc (.cells #[.slice A0 b.length c0, .int .i64 0, .bool false] 71)).alloc (.cells #[.string ⟨#[]⟩, .slice none 0 0, .int .i64 0, .slice none 0 0, .slice none 0 0] 48) = w9 at hI hB hx ⊢
 refine (HT.out w7.heap.size w7 _ hI hB).mono ?_
 (try clear fz fc)
 (try clear qb)
 rintro e wn ⟨rfl, hI', hB', hk⟩
 have hsz := hB.size
 clear hI hB
 have hI := hI'
 have hB := hB'
 clear hI' hB'
 clear hsz
 replace hx := hk.blk hx hgb.symm (by simp)
 clear hk
 have fz := zF hx 0
 have fc := (zC hx 0).trans rfl
 replace hI := hI.far (p := ⟨w7.heap.size + 1, 0, none⟩) hgb (.string t.1)
 replace hB := zE (j := 0) (v := .string t.1) hB hgb7
 replace hx := blk_put (cs' := #[.string t.1, .slice none 0 0, .int .i64 0, .slice none 0 0, .slice none 0 0]) hx 0 (.string t.1) rfl
 go_wp2_with fail
 refine (HN.out w7.heap.size w7 _ hI hB).mono ?_
 (try clear fz fc)
 (try clear qb)
 rintro e wn ⟨rfl, hI', hB', hk⟩
 have hsz := hB.size
 clear hI hB
 have hI := hI'
 have hB := hB'
 clear hI' hB'
 clear hsz
 replace hx := hk.blk hx hgb.symm (by simp)
 clear hk
 have qb := rd_bad hI
 by_cases h1 : n.2.2 = true
 ·have hg := hG.out
  rw [if_pos h1] at hg
  have HG := zA (hG0.out.trans hg.symm)
  clear hg hG hG0
  rw [h1] at qb
  clear h1
  have hz := HZ.out _ hB
  have hB := HW.out _ hB
  go_wp2_with ((with_reducible refine gate_store (t := 48) (p := 2) (v := .tmp 24) rfl ?_); refine wpList_store_row rfl 48 (.tmp 2) (.tmp 24) rfl w.heap.size #[.string ⟨#[]⟩, .slice none 0 0, .int .i64 0, .slice none 0 0, .slice none 0 0] rfl rfl 48 _ hz (by rw [hi]; rfl) rfl (by kernel_rfl) ?_)
  refine bodyPost_ret (results_ct rfl _ _ w.heap.size 48 #[.string ⟨#[]⟩, .slice none 0 0, .int .i64 0, .slice none 0 0, .slice none 0 0] (0, 0) _ rfl (setRow_heap _ _ _ _ _ _ hz) Tryd.underlying48 rfl hi) rfl ?_
  exact RefPost.zero (v := .bool true) HG.out rfl (below_setRow hB (z5 _) _)
 ·have hg := hG.out
  rw [if_neg h1] at hg
  replace hG := zA hg
  clear hg
  replace h1 : n.2.2 = false := by simpa using h1
  rw [h1] at qb
  clear h1
  by_cases h1 : n.1 > 8
  ·have hg := hG.out
   rw [if_pos h1] at hg
   have HG := zA (hG0.out.trans hg.symm)
   clear hg hG hG0
   have hz := HZ.out _ hB
   have hB := HW.out _ hB
   go_wp2_with ((with_reducible refine gate_store (t := 48) (p := 2) (v := .tmp 27) rfl ?_); refine wpList_store_row rfl 48 (.tmp 2) (.tmp 27) rfl w.heap.size #[.string ⟨#[]⟩, .slice none 0 0, .int .i64 0, .slice none 0 0, .slice none 0 0] rfl rfl 48 _ hz (by rw [hi]; rfl) rfl (by kernel_rfl) ?_)
   refine bodyPost_ret (results_ct rfl _ _ w.heap.size 48 #[.string ⟨#[]⟩, .slice none 0 0, .int .i64 0, .slice none 0 0, .slice none 0 0] (0, 0) _ rfl (setRow_heap _ _ _ _ _ _ hz) Tryd.underlying48 rfl hi) rfl ?_
   exact RefPost.zero (v := .bool true) HG.out rfl (below_setRow hB (z5 _) _)
  ·have hg := hG.out
   rw [if_neg h1] at hg
   replace hG := zA hg
   clear hg
   go_wp2_with fail
   refine (HP.out (by omega) w7.heap.size w7 _ hI hB).mono ?_
   (try clear fz fc)
   (try clear qb)
   rintro e wn ⟨v0, rfl, ho, hI', hB', hk⟩
   have hsz := hB.size
   clear hI hB
   have hI := hI'
   have hB := hB'
   clear hI' hB'
   obtain ⟨AP, cP, rfl, hlP, _⟩ := Kd.R_reads ho
   replace hx := hk.blk hx hgb.symm (by simp)
   clear hk
   clear h1
   have RwP := zA (Kd.R_lower (Kd.R_mono (Kd.R_types (hI.apart ho (by decide)) hx (by decide)) (fun k h => (⟨h.1.2, h.2⟩ : k ≠ w7.heap.size ∧ k ≠ w7.heap.size + 1))) hsz)
   clear ho hsz
   have fz := zF hx 1
   have fc := (zC hx 1).trans rfl
   replace hI := hI.far (p := ⟨w7.heap.size + 1, 1, none⟩) hgb (.slice AP p.1.length cP)
   replace hB := zE (j := 1) (v := .slice AP p.1.length cP) hB hgb7
   replace hx := blk_put (cs' := #[.string t.1, .slice AP p.1.length cP, .int .i64 0, .slice none 0 0, .slice none 0 0]) hx 1 (.slice AP p.1.length cP) rfl
   replace RwP := zA (Kd.R_far (p := ⟨w7.heap.size + 1, 1, none⟩) RwP.out (fun k h => h.2) (.slice AP p.1.length cP))
   go_wp2_with fail
   refine (HR.out w7.heap.size w7 _ hI hB).mono ?_
   (try clear fz fc)
   (try clear qb)
   rintro e wn ⟨rfl, hI', hB', hk⟩
   have hsz := hB.size
   clear hI hB
   have hI := hI'
   have hB := hB'
   clear hI' hB'
   clear hsz
   replace hx := hk.blk hx hgb.symm (by simp)
   replace RwP := zA (Kd.R_keep RwP.out hk (fun k h => h.1))
   clear hk
   have fz := zF hx 2
   have fc := (zC hx 2).trans rfl
   replace hI := hI.far (p := ⟨w7.heap.size + 1, 2, none⟩) hgb (.int .i64 r.1)
   replace hB := zE (j := 2) (v := .int .i64 r.1) hB hgb7
   replace hx := blk_put (cs' := #[.string t.1, .slice AP p.1.length cP, .int .i64 r.1, .slice none 0 0, .slice none 0 0]) hx 2 (.int .i64 r.1) rfl
   replace RwP := zA (Kd.R_far (p := ⟨w7.heap.size + 1, 2, none⟩) RwP.out (fun k h => h.2) (.int .i64 r.1))
   go_wp2_with fail
   refine (HM.out w7.heap.size w7 _ hI hB).mono ?_
   (try clear fz fc)
   (try clear qb)
   rintro e wn ⟨rfl, hI', hB', hk⟩
   have hsz := hB.size
   clear hI hB
   have hI := hI'
   have hB := hB'
   clear hI' hB'
   clear hsz
   replace hx := hk.blk hx hgb.symm (by simp)
   replace RwP := zA (Kd.R_keep RwP.out hk (fun k h => h.1))
   clear hk
   have qb := rd_bad hI
   by_cases h1 : m.2.2 = true
   ·have hg := hG.out
    rw [if_pos h1] at hg
    have HG := zA (hG0.out.trans hg.symm)
    clear hg hG hG0
    rw [h1] at qb
    clear h1
    have hz := HZ.out _ hB
    have hB := HW.out _ hB
    go_wp2_with ((with_reducible refine gate_store (t := 48) (p := 2) (v := .tmp 41) rfl ?_); refine wpList_store_row rfl 48 (.tmp 2) (.tmp 41) rfl w.heap.size #[.string ⟨#[]⟩, .slice none 0 0, .int .i64 0, .slice none 0 0, .slice none 0 0] rfl rfl 48 _ hz (by rw [hi]; rfl) rfl (by kernel_rfl) ?_)
    refine bodyPost_ret (results_ct rfl _ _ w.heap.size 48 #[.string ⟨#[]⟩, .slice none 0 0, .int .i64 0, .slice none 0 0, .slice none 0 0] (0, 0) _ rfl (setRow_heap _ _ _ _ _ _ hz) Tryd.underlying48 rfl hi) rfl ?_
    exact RefPost.zero (v := .bool true) HG.out rfl (below_setRow hB (z5 _) _)
   ·have hg := hG.out
    rw [if_neg h1] at hg
    replace hG := zA hg
    clear hg
    replace h1 : m.2.2 = false := by simpa using h1
    rw [h1] at qb
    clear h1
    by_cases h1 : m.1 > 1024
    ·have hg := hG.out
     rw [if_pos h1] at hg
     have HG := zA (hG0.out.trans hg.symm)
     clear hg hG hG0
     have hz := HZ.out _ hB
     have hB := HW.out _ hB
     go_wp2_with ((with_reducible refine gate_store (t := 48) (p := 2) (v := .tmp 44) rfl ?_); refine wpList_store_row rfl 48 (.tmp 2) (.tmp 44) rfl w.heap.size #[.string ⟨#[]⟩, .slice none 0 0, .int .i64 0, .slice none 0 0, .slice none 0 0] rfl rfl 48 _ hz (by rw [hi]; rfl) rfl (by kernel_rfl) ?_)
     refine bodyPost_ret (results_ct rfl _ _ w.heap.size 48 #[.string ⟨#[]⟩, .slice none 0 0, .int .i64 0, .slice none 0 0, .slice none 0 0] (0, 0) _ rfl (setRow_heap _ _ _ _ _ _ hz) Tryd.underlying48 rfl hi) rfl ?_
     exact RefPost.zero (v := .bool true) HG.out rfl (below_setRow hB (z5 _) _)
    ·have hg := hG.out
     rw [if_neg h1] at hg
     replace hG := zA hg
     clear hg
     go_wp2_with fail
     refine (HK.out (by omega) w7.heap.size w7 _ hI hB).mono ?_
     (try clear fz fc)
     (try clear qb)
     rintro e wn ⟨v0, rfl, ho, hI', hB', hk⟩
     have hsz := hB.size
     clear hI hB
     have hI := hI'
     have hB := hB'
     clear hI' hB'
     obtain ⟨AL, cL, rfl, hlL, _⟩ := Kd.R_reads ho
     replace hx := hk.blk hx hgb.symm (by simp)
     replace RwP := zA (Kd.R_keep RwP.out hk (fun k h => h.1))
     clear hk
     clear h1
     have RwL := zA (Kd.R_lower (Kd.R_mono (Kd.R_types (hI.apart ho (by decide)) hx (by decide)) (fun k h => (⟨h.1.2, h.2⟩ : k ≠ w7.heap.size ∧ k ≠ w7.heap.size + 1))) hsz)
     clear ho hsz
     have fz := zF hx 3
     have fc := (zC hx 3).trans rfl
     replace hI := hI.far (p := ⟨w7.heap.size + 1, 3, none⟩) hgb (.slice AL l.1.length cL)
     replace hB := zE (j := 3) (v := .slice AL l.1.length cL) hB hgb7
     replace hx := blk_put (cs' := #[.string t.1, .slice AP p.1.length cP, .int .i64 r.1, .slice AL l.1.length cL, .slice none 0 0]) hx 3 (.slice AL l.1.length cL) rfl
     replace RwP := zA (Kd.R_far (p := ⟨w7.heap.size + 1, 3, none⟩) RwP.out (fun k h => h.2) (.slice AL l.1.length cL))
     replace RwL := zA (Kd.R_far (p := ⟨w7.heap.size + 1, 3, none⟩) RwL.out (fun k h => h.2) (.slice AL l.1.length cL))
     go_wp2_with fail
     refine (HQ.out w7.heap.size w7 _ hI hB).mono ?_
     (try clear fz fc)
     (try clear qb)
     rintro e wn ⟨rfl, hI', hB', hk⟩
     have hsz := hB.size
     clear hI hB
     have hI := hI'
     have hB := hB'
     clear hI' hB'
     clear hsz
     replace hx := hk.blk hx hgb.symm (by simp)
     replace RwP := zA (Kd.R_keep RwP.out hk (fun k h => h.1))
     replace RwL := zA (Kd.R_keep RwL.out hk (fun k h => h.1))
     clear hk
     have qb := rd_bad hI
     by_cases h1 : q.2.2 = true
     ·have hg := hG.out
      rw [if_pos h1] at hg
      have HG := zA (hG0.out.trans hg.symm)
      clear hg hG hG0
      rw [h1] at qb
      clear h1
      have hz := HZ.out _ hB
      have hB := HW.out _ hB
      go_wp2_with ((with_reducible refine gate_store (t := 48) (p := 2) (v := .tmp 55) rfl ?_); refine wpList_store_row rfl 48 (.tmp 2) (.tmp 55) rfl w.heap.size #[.string ⟨#[]⟩, .slice none 0 0, .int .i64 0, .slice none 0 0, .slice none 0 0] rfl rfl 48 _ hz (by rw [hi]; rfl) rfl (by kernel_rfl) ?_)
      refine bodyPost_ret (results_ct rfl _ _ w.heap.size 48 #[.string ⟨#[]⟩, .slice none 0 0, .int .i64 0, .slice none 0 0, .slice none 0 0] (0, 0) _ rfl (setRow_heap _ _ _ _ _ _ hz) Tryd.underlying48 rfl hi) rfl ?_
      exact RefPost.zero (v := .bool true) HG.out rfl (below_setRow hB (z5 _) _)
     ·have hg := hG.out
      rw [if_neg h1] at hg
      replace hG := zA hg
      clear hg
      replace h1 : q.2.2 = false := by simpa using h1
      rw [h1] at qb
      clear h1
      by_cases h1 : q.1 > 16384
      ·have hg := hG.out
       rw [if_pos h1] at hg
       have HG := zA (hG0.out.trans hg.symm)
       clear hg hG hG0
       have hz := HZ.out _ hB
       have hB := HW.out _ hB
       go_wp2_with ((with_reducible refine gate_store (t := 48) (p := 2) (v := .tmp 58) rfl ?_); refine wpList_store_row rfl 48 (.tmp 2) (.tmp 58) rfl w.heap.size #[.string ⟨#[]⟩, .slice none 0 0, .int .i64 0, .slice none 0 0, .slice none 0 0] rfl rfl 48 _ hz (by rw [hi]; rfl) rfl (by kernel_rfl) ?_)
       refine bodyPost_ret (results_ct rfl _ _ w.heap.size 48 #[.string ⟨#[]⟩, .slice none 0 0, .int .i64 0, .slice none 0 0, .slice none 0 0] (0, 0) _ rfl (setRow_heap _ _ _ _ _ _ hz) Tryd.underlying48 rfl hi) rfl ?_
       exact RefPost.zero (v := .bool true) HG.out rfl (below_setRow hB (z5 _) _)
      ·have hg := hG.out
       rw [if_neg h1] at hg
       replace hG := zA hg
       clear hg
       go_wp2_with fail
       refine (HX.out w7.heap.size w7 _ hI hB).mono ?_
       (try clear fz fc)
       (try clear qb)
       rintro e wn ⟨Ax, cx, rfl, hCx, hlx, hI', hB', hk⟩
       have hsz := hB.size
       clear hI hB
       have hI := hI'
       have hB := hB'
       clear hI' hB'
       clear hsz
       replace hx := hk.blk hx hgb.symm (by simp)
       replace RwP := zA (Kd.R_keep RwP.out hk (fun k h => h.1))
       replace RwL := zA (Kd.R_keep RwL.out hk (fun k h => h.1))
       clear hk
       clear h1
       replace hCx := zA hCx
       have qb := rd_bad hI
       by_cases h1 : x.2.2 = true
       ·have hg := hG.out
        rw [if_pos h1] at hg
        have HG := zA (hG0.out.trans hg.symm)
        clear hg hG hG0
        rw [h1] at qb
        clear h1
        have hz := HZ.out _ hB
        have hB := HW.out _ hB
        go_wp2_with ((with_reducible refine gate_store (t := 48) (p := 2) (v := .tmp 67) rfl ?_); refine wpList_store_row rfl 48 (.tmp 2) (.tmp 67) rfl w.heap.size #[.string ⟨#[]⟩, .slice none 0 0, .int .i64 0, .slice none 0 0, .slice none 0 0] rfl rfl 48 _ hz (by rw [hi]; rfl) rfl (by kernel_rfl) ?_)
        refine bodyPost_ret (results_ct rfl _ _ w.heap.size 48 #[.string ⟨#[]⟩, .slice none 0 0, .int .i64 0, .slice none 0 0, .slice none 0 0] (0, 0) _ rfl (setRow_heap _ _ _ _ _ _ hz) Tryd.underlying48 rfl hi) rfl ?_
        exact RefPost.zero (v := .bool true) HG.out rfl (below_setRow hB (z5 _) _)
       ·have hg := hG.out
        rw [if_neg h1] at hg
        replace hG := zA hg
        clear hg
        replace h1 : x.2.2 = false := by simpa using h1
        rw [h1] at qb
        clear h1
        go_wp2_with fail
        refine (HD.out Ax cx _ (zD hCx.out hB) hlx).mono ?_
        clear qb
        rintro e wc ⟨v0, rfl, ho, hb⟩
        obtain ⟨AC, cC, rfl, hlC, _⟩ := Kd.R_reads ho
        have hsz := hB.size
        replace hI := hI.below hb
        replace hB := below_then hB hB.size hb
        replace hx := (hb.block _ (blk_lt hx)).trans hx
        replace RwP := zA (Kd.R_below RwP.out hb)
        replace RwL := zA (Kd.R_below RwL.out hb)
        have RwC := zA (Kd.R_lower (Kd.R_mono (Kd.R_types (hI.apart ho (by decide)) hx (by decide)) (fun k h => (⟨h.1.2, h.2⟩ : k ≠ w7.heap.size ∧ k ≠ w7.heap.size + 1))) hsz)
        clear ho hsz HD hCx hlx hb
        by_cases h1 : ¬ c.2.2 = 0
        ·have hg := hG.out
         rw [if_pos h1] at hg
         have HG := zA (hG0.out.trans hg.symm)
         clear hg hG hG0
         have hz := HZ.out _ hB
         have hB := HW.out _ hB
         go_wp2_with ((with_reducible refine gate_store (t := 48) (p := 2) (v := .tmp 76) rfl ?_); refine wpList_store_row rfl 48 (.tmp 2) (.tmp 76) rfl w.heap.size #[.string ⟨#[]⟩, .slice none 0 0, .int .i64 0, .slice none 0 0, .slice none 0 0] rfl rfl 48 _ hz (by rw [hi]; rfl) rfl (by kernel_rfl) ?_)
         refine bodyPost_ret (results_ct rfl _ _ w.heap.size 48 #[.string ⟨#[]⟩, .slice none 0 0, .int .i64 0, .slice none 0 0, .slice none 0 0] (0, 0) _ rfl (setRow_heap _ _ _ _ _ _ hz) Tryd.underlying48 rfl hi) rfl ?_
         exact RefPost.zero (v := .bool true) HG.out rfl (below_setRow hB (z5 _) _)
        ·have hg := hG.out
         rw [if_neg h1] at hg
         replace hG := zA hg
         clear hg
         replace h1 : c.2.2 = 0 := by simpa using h1
         rw [h1]
         clear h1
         obtain ⟨Al, nl, cl, ql, hnl⟩ := rd_left hI
         by_cases h1 : (b.length : Int) - x.2.1 > 0
         ·have hg := hG.out
          rw [if_pos h1] at hg
          have HG := zA (hG0.out.trans hg.symm)
          clear hg hG hG0
          replace h1 : (nl : Int) > 0 := by omega
          clear hnl
          have hz := HZ.out _ hB
          have hB := HW.out _ hB
          go_wp2_with ((with_reducible refine gate_store (t := 48) (p := 2) (v := .tmp 84) rfl ?_); refine wpList_store_row rfl 48 (.tmp 2) (.tmp 84) rfl w.heap.size #[.string ⟨#[]⟩, .slice none 0 0, .int .i64 0, .slice none 0 0, .slice none 0 0] rfl rfl 48 _ hz (by rw [hi]; rfl) rfl (by kernel_rfl) ?_)
          refine bodyPost_ret (results_ct rfl _ _ w.heap.size 48 #[.string ⟨#[]⟩, .slice none 0 0, .int .i64 0, .slice none 0 0, .slice none 0 0] (0, 0) _ rfl (setRow_heap _ _ _ _ _ _ hz) Tryd.underlying48 rfl hi) rfl ?_
          exact RefPost.zero (v := .bool true) HG.out rfl (below_setRow hB (z5 _) _)
         ·have hg := hG.out
          rw [if_neg h1] at hg
          replace hG := zA hg
          clear hg
          replace h1 : ¬ (nl : Int) > 0 := by omega
          clear hnl
          have fz := zF hx 4
          have fc := (zC hx 4).trans rfl
          replace hI := hI.far (p := ⟨w7.heap.size + 1, 4, none⟩) hgb (.slice AC c.1.length cC)
          replace hB := zE (j := 4) (v := .slice AC c.1.length cC) hB hgb7
          replace hx := blk_put (cs' := #[.string t.1, .slice AP p.1.length cP, .int .i64 r.1, .slice AL l.1.length cL, .slice AC c.1.length cC]) hx 4 (.slice AC c.1.length cC) rfl
          replace RwP := zA (Kd.R_far (p := ⟨w7.heap.size + 1, 4, none⟩) RwP.out (fun k h => h.2) (.slice AC c.1.length cC))
          replace RwL := zA (Kd.R_far (p := ⟨w7.heap.size + 1, 4, none⟩) RwL.out (fun k h => h.2) (.slice AC c.1.length cC))
          replace RwC := zA (Kd.R_far (p := ⟨w7.heap.size + 1, 4, none⟩) RwC.out (fun k h => h.2) (.slice AC c.1.length cC))
          have q0 := (zC hx 0).trans rfl
          have q1 := (zC hx 1).trans rfl
          have q2 := (zC hx 2).trans rfl
          have q3 := (zC hx 3).trans rfl
          have q4 := (zC hx 4).trans rfl
          have hz := HZ.out _ hB
          have hBw := HW.out _ hB
          go_wp2_with ((with_reducible refine gate_store (t := 48) (p := 2) (v := .tmp 87) rfl ?_); refine wpList_store_row rfl 48 (.tmp 2) (.tmp 87) rfl w.heap.size #[.string t.1, .slice AP p.1.length cP, .int .i64 r.1, .slice AL l.1.length cL, .slice AC c.1.length cC] rfl rfl 48 _ hz (by rw [hi]; rfl) rfl (by kernel_rfl) ?_)
          refine bodyPost_ret (results_ct rfl _ _ w.heap.size 48 #[.string t.1, .slice AP p.1.length cP, .int .i64 r.1, .slice AL l.1.length cL, .slice AC c.1.length cC] (0, 0) _ rfl (setRow_heap _ _ _ _ _ _ hz) Tryd.underlying48 rfl hi) rfl ?_
          have HG := hG0.out.trans hG.out.symm
          have rP := Kd.R_mono (Kd.R_lower (Kd.R_keep (Kd.R_types RwP.out hz (by decide)) (keep_setRow _ w.heap.size #[.string t.1, .slice AP p.1.length cP, .int .i64 r.1, .slice AL l.1.length cL, .slice AC c.1.length cC]) (fun k h => h.2)) HSZ) (fun _ _ => trivial)
          have rL := Kd.R_mono (Kd.R_lower (Kd.R_keep (Kd.R_types RwL.out hz (by decide)) (keep_setRow _ w.heap.size #[.string t.1, .slice AP p.1.length cP, .int .i64 r.1, .slice AL l.1.length cL, .slice AC c.1.length cC]) (fun k h => h.2)) HSZ) (fun _ _ => trivial)
          have rC := Kd.R_mono (Kd.R_lower (Kd.R_keep (Kd.R_types RwC.out hz (by decide)) (keep_setRow _ w.heap.size #[.string t.1, .slice AP p.1.length cP, .int .i64 r.1, .slice AL l.1.length cL, .slice AC c.1.length cC]) (fun k h => h.2)) HSZ) (fun _ _ => trivial)
          have e1 := congrArg Prod.fst HG
          have e2 := congrArg Prod.snd HG
          dsimp only at e1 e2
          refine ⟨#[.string t.1, .slice AP p.1.length cP, .int .i64 r.1, .slice AL l.1.length cL, .slice AC c.1.length cC], by rw [e2]; rfl, ?_, below_setRow hBw (z5 _) _⟩
          rw [e1]
          exact UOk.mk rP rL rC
end Go.Proofs.YtdbfgfgbjheibaaDoor.Given
end

section
/- The container's sections and units as the document reads them: they tell what the program's tell. -/
namespace Go.Proofs.YtdbfgfgbjheibaaDoor.Given
open Go Go.RowKit Go.Proofs.YtdbfgfgbjheibaaDoor Go.Proofs.YtdbfgfgbjheibaaDoorW.PrintWords Go.Proofs.YtdbfgfgbjheibaaDoorW.PrintLast Go.Proofs.YtdbfgfgbjheibaaDoorW.PrintMore
set_option linter.unusedVariables false
set_option linter.unusedSimpArgs false
theorem rj_left {W : World} {g : Nat} {b : List Int} {at_ : Int} {bad : Bool} (h : RJ W g b at_ bad) : ∃ A n c, W.cell? ⟨g, 0, none⟩ = some (.slice A n c) ∧ (n : Int) = b.length - at_ := by
 obtain ⟨a, c, hb, _, _, h0, h1, _⟩ := h
 exact ⟨a, _, c, (zC hb 0).trans rfl, by rw [zd]; omega⟩
theorem rj_bad {W : World} {g : Nat} {b : List Int} {at_ : Int} {bad : Bool} (h : RJ W g b at_ bad) : W.cell? ⟨g, 2, none⟩ = some (.bool bad) := by
 obtain ⟨a, c, hb, _⟩ := h
 exact (zC hb 2).trans rfl
theorem C_none (w : World) : Kd.C (Kd.int .u8) w none ([] : List Int).length [] := ⟨rfl, Nat.zero_le _, fun h => absurd h (Nat.lt_irrefl 0)⟩
/-- What the call tells. -/
def TPost (T : Int × List Int × Int) (g : Nat) (b : List Int) (W : World) (e : Ending) (w' : World) : Prop := ∃ A c, e = .returned (.tuple #[.slice A T.2.1.length c, .int .i64 T.1]) ∧ Kd.C (Kd.int .u8) w' A T.2.1.length T.2.1 ∧ T.2.1.length ≤ c ∧ (T.1 = 0 → RJ w' g b T.2.2 false) ∧ KeepBut W w' g none ∧ Below g W w'
set_option maxHeartbeats 2000000 in
theorem rtakeS_calls (g : Nat) (W : World) (b : List Int) (at_ k : Int) (h : RJ W g b at_ false) (hb : okB b = true) :
  Calls Tryd.prog 42 #[.pointer (some ⟨g, 0, none⟩), .int .i64 k] W fun e w' => TPost (takeS b at_ k) g b W e w' := by
 have P1 := rnum_j g W b at_ false 1 h hb
 have HO := zA hb
 obtain ⟨T, hT⟩ : ∃ T, takeS b at_ k = T := ⟨_, rfl⟩
 rw [hT]
 unfold takeS runF at hT
 obtain ⟨A1, n1, d1, q1, hn1⟩ := rj_left h
 by_cases c1 : (b.length : Int) - at_ < 5
 ·rw [if_pos c1] at hT
  subst hT
  have c2 : (n1 : Int) < 5 := by omega
  clear P1 c1 hn1
  go_enter Tryd.func42, Tryd.ntmps42
  go_wp2_with fail
  go_ret2
  exact ⟨none, 0, rfl, C_none _, z5 _, (fun h => by cases h), KeepBut.refl _ _ _, zX _ _⟩
 rw [if_neg c1] at hT
 have c2 : ¬ (n1 : Int) < 5 := by omega
 clear c1 hn1
 generalize numR b at_ false 1 = n at P1 hT
 have P2 := zA P1
 clear P1 h hb
 by_cases c3 : ¬ n.1 = k
 ·rw [if_pos c3] at hT
  subst hT
  have hbne : (n.1 != k) = true := by simpa using c3
  go_enter Tryd.func42, Tryd.ntmps42
  go_wp2_with fail
  refine P2.out.mono ?_
  rintro e w1 ⟨rfl, h1, hk1, hb1⟩
  have H1 := zA (And.intro hk1 hb1)
  clear h1 hk1 hb1 P2
  go_wp2_with fail
  go_ret2
  exact ⟨none, 0, rfl, C_none _, z5 _, (fun h => by cases h), H1.out.1, H1.out.2⟩
 rw [if_neg c3] at hT
 have hbne : (n.1 != k) = false := by simpa using c3
 have c3 : n.1 = k := by simpa using c3
 have HT := zA hT
 clear hT
 go_enter Tryd.func42, Tryd.ntmps42
 go_wp2_with fail
 refine P2.out.mono ?_
 rintro e w1 ⟨rfl, h1, hk1, hb1⟩
 have H1 := zA (And.intro h1 (And.intro hk1 hb1))
 clear h1 hk1 hb1 P2 q1
 go_wp2_with fail
 have P3 := rnum_j g w1 b n.2.1 n.2.2 4 H1.out.1 HO.out
 have hT := HT.out
 generalize numR b n.2.1 n.2.2 4 = m at P3 hT
 refine P3.mono ?_
 rintro e w2 ⟨rfl, h2, hk2, hb2⟩
 have H2 := zA (And.intro h2 (And.intro (H1.out.2.1.trans hk2 (.inl rfl)) (H1.out.2.2.trans hb2)))
 replace HT := zA hT
 clear h2 hk2 hb2 P3 H1 hT
 go_wp2_with fail
 have P4 := rtake_j g w2 b m.2.1 m.2.2 m.1 H2.out.1 HO.out
 have hT := HT.out
 generalize takeR b m.2.1 m.2.2 m.1 = x at P4 hT
 refine P4.mono ?_
 rintro e w3 ⟨A, c, rfl, hC, hl, h3, hk3, hb3⟩
 have H3 := zA (And.intro h3 (And.intro (H2.out.2.1.trans hk3 (.inl rfl)) (H2.out.2.2.trans hb3)))
 have HC := zA (And.intro hC hl)
 clear h3 hk3 hb3 P4 H2 HT hC hl
 have q2 := rj_bad H3.out.1
 by_cases c4 : x.2.2 = true
 ·rw [if_pos c4] at hT
  subst hT
  rw [c4] at q2
  go_wp2_with fail
  go_ret2
  exact ⟨none, 0, rfl, C_none _, z5 _, (fun h => by cases h), H3.out.2.1, H3.out.2.2⟩
 ·rw [if_neg c4] at hT
  subst hT
  have c4 : x.2.2 = false := by simpa using c4
  rw [c4] at q2 H3
  go_wp2_with fail
  go_ret2
  exact ⟨A, c, rfl, HC.out.1, HC.out.2, fun _ => H3.out.1, H3.out.2.1, H3.out.2.2⟩
end Go.Proofs.YtdbfgfgbjheibaaDoor.Given
end

section
/- The units of a container as the document reads them; bytes of at most 90000. -/
namespace Go.Proofs.YtdbfgfgbjheibaaDoor.Given
open Go Go.RowKit Go.Proofs.YtdbfgfgbjheibaaDoor Go.Proofs.YtdbfgfgbjheibaaDoorW.PrintWords Go.Proofs.YtdbfgfgbjheibaaDoorW.PrintLast Go.Proofs.YtdbfgfgbjheibaaDoorW.PrintMore
set_option linter.unusedVariables false
set_option linter.unusedSimpArgs false
/-- What the call tells. -/
def VPost (r : List SU × Int) (w : World) (e : Ending) (w' : World) : Prop := ∃ v : Value, e = .returned (.tuple #[v, .int .i64 r.2]) ∧ Kd.R PBx.k48 48 w' w.heap.size (fun _ => True) v r.1 ∧ Below w.heap.size w w'
theorem VPost.no {n : Int} {w w' : World} (hB : Below w.heap.size w w') : VPost ([], n) w (.returned (.tuple #[.slice none 0 0, .int .i64 n])) w' := ⟨_, rfl, Kd.R_nil _ _ _ _ _, hB⟩
set_option maxHeartbeats 4000000 in
set_option maxRecDepth 100000 in
theorem runits_calls (A0 : Option Addr) (c0 : Nat) (b : List Int) (w : World) (h : Kd.C (Kd.int .u8) w A0 b.length b) (hc : b.length ≤ c0) (hb : okB b = true) (hl : b.length ≤ 90000) :
  Calls Tryd.prog 81 #[.slice A0 b.length c0] w fun e w' => VPost (unitsR b) w e w' := by
 have hi : (Tryd.prog.info? 48).map (·.size) = some 5 := by kernel_rfl
 have HO := zA hb
 have HU := zA (fun W2 A c at_ bad (hC : Kd.C (Kd.int .u8) W2 A (runF b at_ bad).1.length (runF b at_ bad).1) (hc : (runF b at_ bad).1.length ≤ c) =>
  show Calls Tryd.prog 104 #[.slice A (runF b at_ bad).1.length c] W2 fun e w' => GetPost (runF b at_ bad).1 W2 e w' from by
   have hx : okB (runF b at_ bad).1 = true := Pure.okB_of _ (Nat.le_trans runF_len (by omega)) (fun x hx => (okB_all hb).1 x (runF_mem x hx))
   have := rget_calls A c (runF b at_ bad).1 W2 hC hc (Nat.le_trans runF_len hl) hx
   unfold RefPost at this
   rw [ref_get _ (okB_all hx).1 (Nat.le_trans runF_len (by omega))] at this
   exact this)
 have hrg := num1_range b hb
 have hR0 : RJ (w.alloc (.cells #[.slice A0 b.length c0, .int .i64 0, .bool false] 71)) w.heap.size b 0 false := RJ.of (rd_new (w0 := w) (heap_alloc_new w _) (z5 _) h hc) ((zX _ _).alloc (z5 _) _)
 have hB0 : Below w.heap.size w (w.alloc (.cells #[.slice A0 b.length c0, .int .i64 0, .bool false] 71)) := (zX _ _).alloc (z5 _) _
 have P1 := zA (rnum_j w.heap.size _ b 0 false 1 hR0 hb)
 obtain ⟨r, hR⟩ : ∃ r, unitsR b = r := ⟨_, rfl⟩
 rw [hR]
 unfold unitsR at hR
 generalize numR b 0 false 1 = t at hR P1 hrg
 have HR := zA hR
 have HB0 := zA hB0
 clear hb hR hl h hR0 hB0
 go_enter Tryd.func81, Tryd.ntmps81
 go_wp2_with fail
 refine P1.out.mono ?_
 rintro e W3 ⟨rfl, h3, hk3, hb3⟩
 have H3 := zA (And.intro h3 (HB0.out.trans hb3))
 clear h3 hk3 hb3 P1 HB0
 obtain ⟨n, at0, bad0⟩ := t
 simp only at hrg
 have q3 := rj_bad H3.out.1
 cases bad0 with
 | true =>
  have hh := HR.out
  simp only [if_true] at hh
  go_wp2_with fail
  go_ret2
  rw [← hh]
  exact VPost.no H3.out.2
 | false =>
  have hh := HR.out
  simp only [Bool.false_eq_true, if_false] at hh
  by_cases hm : n > 8
  ·rw [if_pos hm] at hh
   go_wp2_with fail
   go_ret2
   rw [← hh]
   exact VPost.no H3.out.2
  ·rw [if_neg hm] at hh
   obtain ⟨u, hU⟩ : ∃ u, unitsL b n.toNat at0 false [] = u := ⟨_, rfl⟩
   rw [hU] at hh
   have HH := zA hh
   have HUL := zA hU
   clear hh hU HR
   obtain ⟨N, rfl⟩ : ∃ N : Nat, n = (N : Int) := ⟨n.toNat, by omega⟩
   rw [Int.toNat_natCast] at HUL
   go_wp2_with fail
   clear q3
   go_loopw [6, 7] (fun ov iv wr => ∃ (j : Nat) (at_ : Int) (l : List SU), j ≤ N ∧ iv = .int .i64 (j : Int) ∧ Aside0 (l.length = j) ∧ Aside0 (Kd.R PBx.k48 48 wr w.heap.size (fun k => w.heap.size < k) ov l) ∧ Aside0 (RJ wr w.heap.size b at_ false ∧ Below w.heap.size w wr) ∧ Aside0 (unitsL b (N - j) at_ false l = u)) (fun _ iv _ => N - (intOf iv).toNat)
   case atStart => exact ⟨0, _, [], Nat.zero_le _, rfl, ⟨rfl⟩, ⟨Kd.R_nil _ _ _ _ _⟩, H3, HUL⟩
   case round =>
    clear HUL H3
    obtain ⟨j, at_, l, hj, rfl, HLl, HV, HI, HUL⟩ := hrel
    obtain ⟨A2, c2, rfl, hl2, hC2⟩ := Kd.R_reads HV.out
    clear hC2 hl2
    by_cases hjn : j < N
    rotate_left
    ·have hu := HUL.out
     rw [show N - j = 0 by omega] at hu
     have HU2 := zA (show (0, l, at_, false) = u from hu)
     clear hu HUL
     obtain ⟨A1, n1, d1, q1, hn1⟩ := rj_left HI.out.1
     have hh := HH.out
     rw [← HU2.out] at hh
     dsimp only at hh
     rw [if_neg (by decide)] at hh
     by_cases hz : (b.length : Int) - at_ > 0
     ·rw [if_pos hz] at hh
      have hz2 : (n1 : Int) > 0 := by omega
      clear HH hz hn1
      go_wp2_with fail
      go_ret2
      rw [← hh]
      exact VPost.no HI.out.2
     ·rw [if_neg hz] at hh
      have hz2 : ¬ (n1 : Int) > 0 := by omega
      clear HH hz hn1
      go_wp2_with fail
      go_ret2
      rw [← hh]
      exact ⟨_, rfl, Kd.R_mono HV.out (fun _ _ => trivial), HI.out.2⟩
    ·have hu := HUL.out
     rw [show N - j = (N - (j + 1)) + 1 by omega] at hu
     unfold unitsL at hu
     have HUX := zA (fun W2 A c => HU.out W2 A c at_ false)
     have P2 := rnum_j w.heap.size wr b at_ false 4 HI.out.1 HO.out
     unfold runF at hu HUX
     generalize numR b at_ false 4 = m at hu HUX P2
     have P3 := fun W h => rtake_j w.heap.size W b m.2.1 m.2.2 m.1 h HO.out
     generalize takeR b m.2.1 m.2.2 m.1 = x at hu HUX P3
     have P2 := zA P2
     have P3 := zA P3
     have HUu := zA hu
     clear hu HUL
     go_wp2_with fail
     refine P2.out.mono ?_
     rintro e W4 ⟨rfl, h4, hk4, hb4⟩
     have HI4 := zA (And.intro h4 (HI.out.2.trans hb4))
     have HV4 := zA (Kd.R_keep HV.out hk4 (fun k hk => Nat.ne_of_gt hk))
     clear h4 hk4 hb4 P2 HI HV
     go_wp2_with fail
     refine (P3.out W4 HI4.out.1).mono ?_
     rintro e W5 ⟨A, c, rfl, hC, hlc, h5, hk5, hb5⟩
     have HI5 := zA (And.intro h5 (HI4.out.2.trans hb5))
     have HV5 := zA (Kd.R_keep HV4.out hk5 (fun k hk => Nat.ne_of_gt hk))
     have HG5 := zA (HUX.out W5 A c hC hlc)
     have q5 := rj_bad HI5.out.1
     have hu := HUu.out
     clear h5 hk5 hb5 P3 HI4 HV4 HUX hC hlc HUu
     by_cases hx : x.2.2 = true
     ·rw [if_pos hx] at hu
      subst hu
      have hh := HH.out
      dsimp only at hh
      rw [if_pos (by decide)] at hh
      rw [hx] at q5
      go_wp2_with fail
      go_ret2
      rw [← hh]
      exact VPost.no HI5.out.2
     ·rw [if_neg hx] at hu
      have hx : x.2.2 = false := by simpa using hx
      rw [hx] at q5 HI5
      go_wp2_with fail
      refine HG5.out.mono ?_
      rintro e W6 ⟨cs, rfl, hcs, hb6⟩
      clear HG5 q5
      generalize ugetR x.1 = U at hu hcs
      have hm6 := unit_M hcs (show w.heap.size ≤ W5.heap.size from HI5.out.2.size)
      obtain ⟨AP, cP, AL, cL, AC, cC, rfl, _⟩ := hcs
      have hz := heap_alloc_new W6 (.cells #[.string ⟨#[]⟩, .slice none 0 0, .int .i64 0, .slice none 0 0, .slice none 0 0] 48)
      have hg7 := setRow_heap _ _ _ #[.string U.1.1, .slice AP U.1.2.1.length cP, .int .i64 U.1.2.2.1, .slice AL U.1.2.2.2.1.length cL, .slice AC U.1.2.2.2.2.length cC] _ _ hz
      have hB7 := below_setRow ((zX W6.heap.size W6).alloc (z5 _) (.cells #[.string ⟨#[]⟩, .slice none 0 0, .int .i64 0, .slice none 0 0, .slice none 0 0] 48)) (z5 W6.heap.size) #[.string U.1.1, .slice AP U.1.2.1.length cP, .int .i64 U.1.2.2.1, .slice AL U.1.2.2.2.1.length cL, .slice AC U.1.2.2.2.2.length cC]
      have hb7 := hb6.trans (hB7.mono hb6.size)
      have HI7 := zA (And.intro (HI5.out.1.below hb7) (HI5.out.2.trans (hb7.mono HI5.out.2.size)))
      have HV7 := zA (Kd.R_below HV5.out hb7)
      have HM7 := zA (Kd.M_below hm6 hB7)
      have HG7 := zA hg7
      have HZ := zA hz
      have HW5 := zA (And.intro (show ∀ k, (Value.slice A2 l.length c2).ownBlock = some k → k < W5.heap.size from Kd.R_lt HV5.out) HI5.out.1.ltS)
      clear hm6 hz hg7 hB7 hb7 hb6 HI5 HV5
      by_cases hu0 : U.2 = 0
      rotate_left
      ·rw [if_pos hu0] at hu
       subst hu
       have hh := HH.out
       dsimp only at hh
       rw [if_pos hu0] at hh
       have hbne : (U.2 != 0) = true := by simpa using hu0
       go_wp2_with ((with_reducible refine gate_store (t := 48) (p := 9) (v := .tmp 38) rfl ?_); refine wpList_store_row rfl 48 (.tmp 9) (.tmp 38) rfl W6.heap.size #[.string U.1.1, .slice AP U.1.2.1.length cP, .int .i64 U.1.2.2.1, .slice AL U.1.2.2.2.1.length cL, .slice AC U.1.2.2.2.2.length cC] rfl rfl 48 _ HZ.out (by rw [hi]; rfl) rfl (by kernel_rfl) ?_)
       go_ret2
       rw [← hh]
       exact VPost.no HI7.out.2
      ·rw [if_neg (by simp [hu0])] at hu
       have HU2 := zA hu
       clear hu
       rw [hu0]
       go_wp2_with (first
        | ((with_reducible refine gate_store (t := 48) (p := 9) (v := .tmp 38) rfl ?_); refine wpList_store_row rfl 48 (.tmp 9) (.tmp 38) rfl W6.heap.size #[.string U.1.1, .slice AP U.1.2.1.length cP, .int .i64 U.1.2.2.1, .slice AL U.1.2.2.2.1.length cL, .slice AC U.1.2.2.2.2.length cC] rfl rfl 48 _ HZ.out (by rw [hi]; rfl) rfl (by kernel_rfl) ?_)
        | ((with_reducible refine gate_dst (N := 44) rfl ?_); refine wpList_load_row rfl 48 (.tmp 9) rfl W6.heap.size rfl 48 _ (0, 0) _ HG7.out Tryd.underlying48 rfl (by rw [hi]; rfl) ?_)
        | ((with_reducible refine gate_builtin (b := .append) (xs := #[.tmp 43, .tmp 45]) rfl ?_); at_builtin; refine Kd.R_append PBx.k48 (w0 := w) w.heap.size rfl (.tmp 43) (.tmp 45) 25 48 (.agg #[.string ⟨#[]⟩, .slice none 0 0, .int .i64 0, .slice none 0 0, .slice none 0 0]) 96 rfl Tryd.underlying25 (by kernel_rfl) rfl (by decide) (by omega) (.slice A2 l.length c2) l (mkU U.1) [.string U.1.1, .slice AP U.1.2.1.length cP, .int .i64 U.1.2.2.1, .slice AL U.1.2.2.2.1.length cL, .slice AC U.1.2.2.2.2.length cC] (fun k => w.heap.size < k) (fun k => W5.heap.size ≤ k) rfl (by first | (go_simp; done) | (go_simp; rfl)) ?aP ?aK ?aF ?aO ?aB ?aS ?aL ?_; (case aP => exact HM7.out); (case aK => exact fun k hk => ⟨Nat.lt_of_lt_of_le HW5.out.2 hk, fun e => absurd (HW5.out.1 k e.symm) (by omega)⟩); (case aB => exact HI7.out.2); (case aF => exact fun k hk => Nat.lt_of_lt_of_le HI7.out.1.ltS hk); (case aO => exact HV7.out); (case aS => exact Nat.le_of_lt HI7.out.1.ltS); (case aL => have := HLl.out; omega); intro v7 W9 ho7 hb7 hg7 hat7; have HI9 := zA (And.intro (HI7.out.1.grown hg7 (fun k e => HV7.out.1 k e)) hb7); have HV9 := zA ho7; clear hg7 hat7 ho7 hb7))
       refine ⟨⟨j + 1, _, l ++ [mkU U.1], by omega, by push_cast; rfl, ⟨by rw [List.length_append, HLl.out]; rfl⟩, HV9, HI9, HU2⟩, ?_⟩
       rw [show intOf (.int .i64 ((j : Int) + 1)) = (j : Int) + 1 from rfl, show intOf (.int .i64 (j : Int)) = (j : Int) from rfl]
       omega
end Go.Proofs.YtdbfgfgbjheibaaDoor.Given
end

section
/- box.read where it throws: bytes that do not begin as a container; bytes whose sum differs. -/
namespace Go.Proofs.YtdbfgfgbjheibaaDoor.Given
open Go Go.RowKit Go.Proofs.YtdbfgfgbjheibaaDoor Go.Proofs.YtdbfgfgbjheibaaDoorW.PrintWords Go.Proofs.YtdbfgfgbjheibaaDoorW.PrintLast Go.Proofs.YtdbfgfgbjheibaaDoorW.PrintMore
set_option linter.unusedVariables false
set_option linter.unusedSimpArgs false
set_option maxHeartbeats 1000000 in
set_option maxRecDepth 100000 in
theorem read_magic (A0 : Option Addr) (c0 : Nat) (l : List Int) (w : World) (h : Kd.C (Kd.int .u8) w A0 l.length l) (hc : l.length ≤ c0) (h8 : 8 ≤ l.length) (hm : l.length ≤ 1048576) (hne : ((strOfNums (l.take 4)).toList == ([76, 66, 75, 49] : List UInt8)) = false) :
  Calls Tryd.prog 25 #[.slice A0 l.length c0] w fun e w' => e = .panicked [{ v := wrongV 2, recovered := false }] ∧ Below w.heap.size w w' := by
 have hB : Below w.heap.size w (w.alloc (.cells #[.slice none 0 0, .slice none 0 0, .slice none 0 0, .slice none 0 0] 27)) := (zX _ _).alloc (z5 _) _
 have g1 : ¬ ((l.length : Int) > 1048576) := by omega
 have g2 : ¬ ((l.length : Int) < 8) := by omega
 have HM := zA (fun W => must_bad 2 (by decide) W)
 have HB := zA hB
 have HH := zA (zD h hB)
 have h4 := Kd.C_take (m := 4) (zD h hB) (by omega)
 have y4 : (l.take 4).length = 4 := by rw [zt]; omega
 obtain ⟨y, hy⟩ : ∃ y, y = l.take 4 := ⟨_, rfl⟩
 rw [← hy] at h4 hne y4
 have hcv := Kd.C_string (P := Tryd.prog) (A := A0) (c := c0) Tryd.underlying28 Tryd.underlying5 Tryd.underlying9 (y4 ▸ h4)
 first | rw [y4] at hcv | skip
 clear h hB h4 hy y4
 go_enter Tryd.func25, Tryd.ntmps25
 go_wp2_with fail
 refine (HM.out _).mono ?_
 rintro e w2 ⟨rfl, rfl⟩
 exact ⟨rfl, rfl, HB.out⟩
set_option maxHeartbeats 2000000 in
set_option maxRecDepth 100000 in
/-- Bytes that begin as a container, whose sum differs: w's end is the last four bytes' number, s the sum of the others. -/
theorem read_sum (A0 : Option Addr) (c0 : Nat) (l : List Int) (w : World) (h : Kd.C (Kd.int .u8) w A0 l.length l) (hc : l.length ≤ c0) (h8 : 8 ≤ l.length) (hm : l.length ≤ 1048576) (hb : ∀ x ∈ l, 0 ≤ x ∧ x < 256) (heq : ((strOfNums (l.take 4)).toList == ([76, 66, 75, 49] : List UInt8)) = true)
  (hne : ¬ (numR (l.drop (l.length - 4)) 0 false 4).1 = 4294967295 - overF 4294967295 (l.take (l.length - 4))) :
  Calls Tryd.prog 25 #[.slice A0 l.length c0] w fun e w' => e = .panicked [{ v := wrongV 3, recovered := false }] ∧ Below w.heap.size w w' := by
 have hB : Below w.heap.size w (w.alloc (.cells #[.slice none 0 0, .slice none 0 0, .slice none 0 0, .slice none 0 0] 27)) := (zX _ _).alloc (z5 _) _
 have g1 : ¬ ((l.length : Int) > 1048576) := by omega
 have g2 : ¬ ((l.length : Int) < 8) := by omega
 have HM := zA (fun W => must_bad 3 (by decide) W)
 have HB := zA hB
 have HH := zA (zD h hB)
 have h4 := Kd.C_take (m := 4) (zD h hB) (by omega)
 have y4 : (l.take 4).length = 4 := by rw [zt]; omega
 obtain ⟨y, hy⟩ : ∃ y, y = l.take 4 := ⟨_, rfl⟩
 rw [← hy] at h4 heq y4
 have hcv := Kd.C_string (P := Tryd.prog) (A := A0) (c := c0) Tryd.underlying28 Tryd.underlying5 Tryd.underlying9 (y4 ▸ h4)
 first | rw [y4] at hcv | skip
 have hz : (Tryd.prog.info? 5).map (·.size) = some 1 := by kernel_rfl
 obtain ⟨i0, hi0, hsz0⟩ := Option.map_eq_some_iff.1 hz
 have hs1 := cut_from (P := Tryd.prog) 28 5 .i64 Tryd.underlying28 hi0 1 hsz0 A0 l.length c0 ((l.length : Int) - 4) (by omega) (by omega)
 have hs2 := cut_to (P := Tryd.prog) 28 5 .i64 Tryd.underlying28 hi0 A0 l.length c0 ((l.length : Int) - 4) (by omega) (by omega) hc
 have e1 : ((l.length : Int) - 4).toNat = l.length - 4 := by omega
 have hC1 := Kd.C_drop (m := l.length - 4) (zD h hB) (by omega) hc
 have hC2 := Kd.C_take (m := l.length - 4) (zD h hB) (by omega)
 have e2 : l.length - (l.length - 4) = (l.drop (l.length - 4)).length := by rw [zd]
 have e3 : l.length - 4 = (l.take (l.length - 4)).length := by rw [zt]; omega
 rw [e1] at hs1 hs2
 rw [show (Kd.int .u8).sz = 1 from rfl] at hC1
 have hd1 : (l.drop (l.length - 4)).length = 4 := by rw [zd]; omega
 have hb1 : okB (l.drop (l.length - 4)) = true := by unfold okB; simp only [Bool.and_eq_true, List.all_eq_true, decide_eq_true_eq]; exact ⟨fun x hx => hb x (List.mem_of_mem_drop hx), by omega⟩
 have hbT : ∀ x ∈ l.take (l.length - 4), 0 ≤ x ∧ x < 256 := fun x hx => hb x (List.mem_of_mem_take hx)
 have hlT : (l.take (l.length - 4)).length ≤ 1000000000 := by rw [zt]; omega
 have hk1 : (l.drop (l.length - 4)).length ≤ c0 - (l.length - 4) := by rw [zd]; omega
 have hk2 : (l.take (l.length - 4)).length ≤ c0 := by rw [← e3]; omega
 rw [e2] at hs1
 generalize (if c0 = l.length - 4 then A0 else Option.map (fun x => x.add ((l.length - 4) * 1)) A0) = A1 at hs1 hC1
 generalize c0 - (l.length - 4) = c1 at hs1 hk1
 rw [e3] at hs2
 generalize hD : l.drop (l.length - 4) = D at *
 generalize hT : l.take (l.length - 4) = T at *
 have PN := zA (fun W (hW : Below (w.alloc (.cells #[.slice none 0 0, .slice none 0 0, .slice none 0 0, .slice none 0 0] 27)).heap.size (w.alloc (.cells #[.slice none 0 0, .slice none 0 0, .slice none 0 0, .slice none 0 0] 27)) W) => new_calls A1 c1 D W (zD hC1 hW) hk1 (by omega))
 have PT := zA (fun W (hW : Below (w.alloc (.cells #[.slice none 0 0, .slice none 0 0, .slice none 0 0, .slice none 0 0] 27)).heap.size (w.alloc (.cells #[.slice none 0 0, .slice none 0 0, .slice none 0 0, .slice none 0 0] 27)) W) => Of_calls A0 c0 T W (zD hC2 hW) hk2 hlT hbT)
 have HO := zA hb1
 clear h hB h4 y4 hC1 hC2 e1 e2 e3 hz hi0 hsz0 hb1 hk1 hk2 hb hd1 hbT hlT
 clear hD hT hy
 go_enter Tryd.func25, Tryd.ntmps25
 go_wp2_with fail
 go_region_with (first
  | (go_at_call 59; refine (PN.out _ (by first | exact (zX _ _) | exact (below_drew1 (zX _ _)))).mono ?_; rintro e w8 ⟨w7, g, rfl, hI8, hb7, hb8⟩; have hb78 := hb7.trans (hb8.mono hb7.size))
  | (go_at_call 60; refine (num_calls g w7 _ D 0 false 4 hI8 hb8 HO.out).mono ?_; rintro e w9 ⟨rfl, hI9, hb9, hk9⟩)
  | (go_at_call 23; refine (PT.out _ (by first | exact hb7.trans (hb9.mono hb7.size) | exact (below_drew1 (zX _ _)).trans (hb7.trans (hb9.mono hb7.size)))).mono ?_; rintro e w10 ⟨rfl, hb10⟩))
 simp only [Act.put, zY, List.set_cons_zero, z2]
 have hB0 := below_drew1 HB.out
 have hB9 := hB0.trans ((hb7.trans (hb9.mono hb7.size)).mono hB0.size)
 have HB9 := zA (hB9.trans (hb10.mono hB9.size))
 have hbne : ((numR D 0 false 4).1 != IntKind.i64.wrap (4294967295 - overF 4294967295 T)) = true := by
  have hlim := overF_lim 4294967295 (by decide) T
  rw [i64_w, show wrap64 (4294967295 - overF 4294967295 T) = 4294967295 - overF 4294967295 T by unfold wrap64; omega]
  simpa using hne
 have hbne2 : ¬ (numR D 0 false 4).1 = IntKind.i64.wrap (4294967295 - overF 4294967295 T) := by simpa using hbne
 go_wp2_with fail
 refine (HM.out _).mono ?_
 rintro e w11 ⟨rfl, rfl⟩
 exact ⟨rfl, rfl, HB9.out⟩
end Go.Proofs.YtdbfgfgbjheibaaDoor.Given
end
