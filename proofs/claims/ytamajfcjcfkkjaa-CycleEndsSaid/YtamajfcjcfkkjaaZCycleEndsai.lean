/- The law CycleEnds holds for every input: the walk over its code shows that the call returns true and that what was read stays as it was; the row follows. -/
import Derived.Test.YtamajfcjcfkkjaaRows
import Derived.WalkKit
import Derived.ProofKit
import Derived.OpenShut
import Derived.ShutString
import Derived.ChangeOld
import Derived.Below
import Derived.SizedLaws
import Derived.Test.YtamajfcjcfkkjaaZCycleEndsaa
import Derived.Test.YtamajfcjcfkkjaaZCycleEndsac
import Derived.Test.YtamajfcjcfkkjaaZCycleEndsah
section
/- CycleEnds, walked by hand. -/
namespace Go.Proofs.Ytamajfcjcfkkjaa
open Go Go.RowKit Go.Proofs.Ytamajfcjcfkkjaa.PSt Go.Proofs.Ytamajfcjcfkkjaa.RPure Go.Proofs.Ytamajfcjcfkkjaa.Given Go.Proofs.YtamajfcjcfkkjaaW.PrintWords Go.Proofs.YtamajfcjcfkkjaaW.PrintLast Go.Proofs.YtamajfcjcfkkjaaW.PrintMore
set_option linter.unusedVariables false
set_option linter.unusedSimpArgs false
namespace StE
open StW
structure EB (wo : World) (prow lrow : Array Value) (W : World) : Prop where
  below : Below wo.heap.size wo W
  h3 : W.heap[wo.heap.size]? = some (.cells prow 27 (0, 0))
  h4 : W.heap[wo.heap.size + 1]? = some (.cells lrow 40 (0, 0))
theorem EB.step {wo W W' : World} {p l : Array Value} (h : EB wo p l W) (hb : Below W.heap.size W W') : EB wo p l W' := ⟨h.below.trans (hb.mono h.below.size), (hb.block _ (blk_lt h.h3)).trans h.h3, (hb.block _ (blk_lt h.h4)).trans h.h4⟩
theorem two (w : World) (o1 o2 : Obj) : ∃ W0, W0 = (w.alloc o1).alloc o2 ∧ Below w.heap.size w W0 ∧ W0.heap[w.heap.size]? = some o1 ∧ W0.heap[w.heap.size + 1]? = some o2 := by
  have z1 : (w.alloc o1).heap.size = w.heap.size + 1 := alloc_size _ _
  refine ⟨_, rfl, ((Below.refl _ _).alloc (Nat.le_refl _) _).alloc (by omega) _, ?_, ?_⟩
  · rw [Below.heap_alloc _ _ _ (by omega)]; exact alloc_get _ _
  · rw [← z1]; exact alloc_get _ _
theorem awake24_c (w : World) : Calls Try.prog 10 #[] w fun e w' => e = .returned (.bool true) ∧ Below w.heap.size w w' := ladderbacklaw24_awake.calls true w awake24
set_option maxHeartbeats 8000000 in
set_option maxRecDepth 100000 in
theorem CycleEnds_w (A0 A1 A2 A3 A4 A5 A6 A7 : Option Addr) (c0 c1 c2 c3 c4 c5 c6 c7 : Nat) (pc : LC) (pv : LV) (pb : LB) (pu : LU) (V : LL) (B : LI) (n f : Int) (W : LL) (D : LI) (n2 f2 ft : Int) (wo : World) (g4 : Kd.C k104 wo A4 pc.length pc) (l4 : pc.length ≤ c4) (g5 : Kd.C k60 wo A5 pv.length pv) (l5 : pv.length ≤ c5) (g6 : Kd.C k62 wo A6 pb.length pb) (l6 : pb.length ≤ c6) (g7 : Kd.C k66 wo A7 pu.length pu) (l7 : pu.length ≤ c7) (cs : C wo A0 c0 V A1 c1 B) (cs2 : C wo A2 c2 W A3 c3 D) :
    Calls Try.prog 4 #[.agg #[.slice A4 pc.length c4, .slice A5 pv.length c5, .slice A6 pb.length c6, .slice A7 pu.length c7], .agg #[.slice A0 V.length c0, .slice A1 B.length c1, .int .i64 n, .int .i64 f, .slice A2 W.length c2, .slice A3 D.length c3, .int .i64 n2, .int .i64 f2], .int .i64 ft] wo fun e w' => e = .returned (.bool true) ∧ Below wo.heap.size wo w' := by
  have hi4 : (Try.prog.info? 31).map (·.size) = some 4 := by kernel_rfl
  obtain ⟨s3, e3, h3⟩ := few_is pc pv pb pu
  obtain ⟨s1, e1, h1⟩ := short_is V B n f
  obtain ⟨s2, e2, h2⟩ := short_is W D n2 f2
  have FC := Aside0.mk (fun W_ (hb : Below wo.heap.size wo W_) => ladderbacklaw16_Few.calls 200 A4 c4 pc A5 c5 pv A6 c6 pb A7 c7 pu s3 W_ (Kd.C_below g4 hb) l4 (Kd.C_below g5 hb) l5 (Kd.C_below g6 hb) l6 (Kd.C_below g7 hb) l7 (e3 200 (by decide)))
  have S1 := Aside0.mk (fun W_ (hb : Below wo.heap.size wo W_) => short_c (n := n) (f := f) (cs.below hb) s1 (e1 200 (by decide)))
  have S2 := Aside0.mk (fun W_ (hb : Below wo.heap.size wo W_) => short_c (n := n2) (f := f2) (cs2.below hb) s2 (e2 200 (by decide)))
  have G5 := Aside0.mk g5
  have CS := Aside0.mk cs
  have CS2 := Aside0.mk cs2
  clear e1 e2 e3 g4 g5 g6 g7 cs cs2
  unfold row at S1 S2
  have P3 := Aside0.mk h3
  have P1 := Aside0.mk h1
  have P2 := Aside0.mk h2
  clear h1 h2 h3
  go_enter Try.func4, Try.ntmps4
  go_wp2_with fail
  obtain ⟨W0, hW0, hB0, H3, H4⟩ := two wo (.cells #[.slice A4 pc.length c4, .slice A5 pv.length c5, .slice A6 pb.length c6, .slice A7 pu.length c7] 27) (.cells #[.slice A0 V.length c0, .slice A1 B.length c1, .int .i64 n, .int .i64 f, .slice A2 W.length c2, .slice A3 D.length c3, .int .i64 n2, .int .i64 f2] 40)
  rw [← hW0]
  have HE0 := Aside0.mk (EB.mk hB0 H3 H4)
  clear hW0 hB0 H3 H4
  refine (FC.out W0 HE0.out.below).mono ?_
  rintro e W1 ⟨rfl, hb⟩
  have HE := Aside0.mk (HE0.out.step hb)
  clear hb HE0
  cases s3 with
  | false =>
    go_wp2_with fail
    refine (awake24_c _).mono ?_
    rintro e Wz ⟨rfl, hb⟩
    have HZ := Aside0.mk (HE.out.step hb).below
    clear hb
    go_wp2_with fail
    go_ret
    exact ⟨rfl, HZ.out⟩
  | true =>
    have q30 : W1.cell? ⟨wo.heap.size, 0, none⟩ = some (.slice A4 pc.length c4) := (blk_cell HE.out.h3 0).trans rfl
    have q31 : W1.cell? ⟨wo.heap.size, 1, none⟩ = some (.slice A5 pv.length c5) := (blk_cell HE.out.h3 1).trans rfl
    have q32 : W1.cell? ⟨wo.heap.size, 2, none⟩ = some (.slice A6 pb.length c6) := (blk_cell HE.out.h3 2).trans rfl
    have q33 : W1.cell? ⟨wo.heap.size, 3, none⟩ = some (.slice A7 pu.length c7) := (blk_cell HE.out.h3 3).trans rfl
    have q40 : W1.cell? ⟨wo.heap.size + 1, 0, none⟩ = some (.slice A0 V.length c0) := (blk_cell HE.out.h4 0).trans rfl
    have q41 : W1.cell? ⟨wo.heap.size + 1, 1, none⟩ = some (.slice A1 B.length c1) := (blk_cell HE.out.h4 1).trans rfl
    have q42 : W1.cell? ⟨wo.heap.size + 1, 2, none⟩ = some (.int .i64 n) := (blk_cell HE.out.h4 2).trans rfl
    have q43 : W1.cell? ⟨wo.heap.size + 1, 3, none⟩ = some (.int .i64 f) := (blk_cell HE.out.h4 3).trans rfl
    have q44 : W1.cell? ⟨wo.heap.size + 1, 4, none⟩ = some (.slice A2 W.length c2) := (blk_cell HE.out.h4 4).trans rfl
    have q45 : W1.cell? ⟨wo.heap.size + 1, 5, none⟩ = some (.slice A3 D.length c3) := (blk_cell HE.out.h4 5).trans rfl
    have q46 : W1.cell? ⟨wo.heap.size + 1, 6, none⟩ = some (.int .i64 n2) := (blk_cell HE.out.h4 6).trans rfl
    have q47 : W1.cell? ⟨wo.heap.size + 1, 7, none⟩ = some (.int .i64 f2) := (blk_cell HE.out.h4 7).trans rfl
    go_wp2_with fail
    refine (S1.out W1 HE.out.below).mono ?_
    rintro e W2 ⟨rfl, hb⟩
    have HEn := Aside0.mk (HE.out.step hb)
    clear q30 q31 q32 q33 q40 q41 q42 q43 q44 q45 q46 q47
    clear hb HE
    have HE := HEn
    clear HEn
    cases s1 with
    | false =>
      go_wp2_with fail
      refine (awake24_c _).mono ?_
      rintro e Wz ⟨rfl, hb⟩
      have HZ := Aside0.mk (HE.out.step hb).below
      clear hb
      go_wp2_with fail
      go_ret
      exact ⟨rfl, HZ.out⟩
    | true =>
      have q30 : W2.cell? ⟨wo.heap.size, 0, none⟩ = some (.slice A4 pc.length c4) := (blk_cell HE.out.h3 0).trans rfl
      have q31 : W2.cell? ⟨wo.heap.size, 1, none⟩ = some (.slice A5 pv.length c5) := (blk_cell HE.out.h3 1).trans rfl
      have q32 : W2.cell? ⟨wo.heap.size, 2, none⟩ = some (.slice A6 pb.length c6) := (blk_cell HE.out.h3 2).trans rfl
      have q33 : W2.cell? ⟨wo.heap.size, 3, none⟩ = some (.slice A7 pu.length c7) := (blk_cell HE.out.h3 3).trans rfl
      have q40 : W2.cell? ⟨wo.heap.size + 1, 0, none⟩ = some (.slice A0 V.length c0) := (blk_cell HE.out.h4 0).trans rfl
      have q41 : W2.cell? ⟨wo.heap.size + 1, 1, none⟩ = some (.slice A1 B.length c1) := (blk_cell HE.out.h4 1).trans rfl
      have q42 : W2.cell? ⟨wo.heap.size + 1, 2, none⟩ = some (.int .i64 n) := (blk_cell HE.out.h4 2).trans rfl
      have q43 : W2.cell? ⟨wo.heap.size + 1, 3, none⟩ = some (.int .i64 f) := (blk_cell HE.out.h4 3).trans rfl
      have q44 : W2.cell? ⟨wo.heap.size + 1, 4, none⟩ = some (.slice A2 W.length c2) := (blk_cell HE.out.h4 4).trans rfl
      have q45 : W2.cell? ⟨wo.heap.size + 1, 5, none⟩ = some (.slice A3 D.length c3) := (blk_cell HE.out.h4 5).trans rfl
      have q46 : W2.cell? ⟨wo.heap.size + 1, 6, none⟩ = some (.int .i64 n2) := (blk_cell HE.out.h4 6).trans rfl
      have q47 : W2.cell? ⟨wo.heap.size + 1, 7, none⟩ = some (.int .i64 f2) := (blk_cell HE.out.h4 7).trans rfl
      go_wp2_with fail
      refine (S2.out W2 HE.out.below).mono ?_
      rintro e W3 ⟨rfl, hb⟩
      have HEn := Aside0.mk (HE.out.step hb)
      clear q30 q31 q32 q33 q40 q41 q42 q43 q44 q45 q46 q47
      clear hb HE
      have HE := HEn
      clear HEn
      cases s2 with
      | false =>
        go_wp2_with fail
        refine (awake24_c _).mono ?_
        rintro e Wz ⟨rfl, hb⟩
        have HZ := Aside0.mk (HE.out.step hb).below
        clear hb
        go_wp2_with fail
        go_ret
        exact ⟨rfl, HZ.out⟩
      | true =>
        have hs1 := P1.out (by trivial)
        have hs2 := P2.out (by trivial)
        obtain ⟨hv70, _⟩ := P3.out (by trivial)
        obtain ⟨X, E, m, g, r, he⟩ : ∃ X E m g r, endF pv V B n f W D n2 f2 ft = (X, E, m, g, r) := ⟨_, _, _, _, _, rfl⟩
        have hX : Sh X E := by unfold endF at he; split at he <;> (simp only [Prod.mk.injEq] at he; obtain ⟨rfl, rfl, _⟩ := he; assumption)
        have hrl : r.length ≤ 100000 := by
          have a1 := area_len V 2 hs1.2.2 pv
          have a2 := area_len W 2 hs2.2.2 pv
          have b1 := hs1.1
          have b2 := hs2.1
          unfold endF at he; split at he <;> (simp only [Prod.mk.injEq] at he; obtain ⟨_, _, _, _, rfl⟩ := he); (try rw [List.length_replicate]); all_goals (try rw [List.length_replicate]); all_goals omega
        have EN := Aside0.mk (fun W_ (hb : Below wo.heap.size wo W_) => end_c (w := W_) (c5 := c5) (Kd.C_below G5.out hb) l5 hv70 (CS.out.below hb) (CS2.out.below hb) hs1 hs2 he)
        have RN := Aside0.mk (fun W_ (hb : Below wo.heap.size wo W_) => rend_w (wo := W_) (c5 := c5) (Kd.C_below G5.out hb) l5 hv70 (CS.out.below hb) (CS2.out.below hb) hs1 hs2 he)
        obtain ⟨r0, hr0⟩ : ∃ r0, r0 = List.replicate (areaF pv V 2).length (0 : Int) := ⟨_, rfl⟩
        have hr0l : r0.length ≤ 100000 := by
          have a1 := area_len V 2 hs1.2.2 pv
          have b1 := hs1.1
          rw [hr0, List.length_replicate]; omega
        have OF := Aside0.mk (fun W_ (hb : Below wo.heap.size wo W_) => Given.cycle_Off.calls A5 c5 pv A0 c0 V A1 c1 B n f r0 W_ (Kd.C_below G5.out hb) l5 (Kd.C_below CS.out.g0 hb) CS.out.l0 (Kd.C_below CS.out.g1 hb) CS.out.l1 (by rw [hr0]; exact coff_is pv V B n f hv70 hs1))
        have RO := Aside0.mk (fun W_ (hb : Below wo.heap.size wo W_) => ladderbackref24_Off.calls 20000 A5 c5 pv A0 c0 V A1 c1 B n f r0 W_ (Kd.C_below G5.out hb) l5 (Kd.C_below CS.out.g0 hb) CS.out.l0 (Kd.C_below CS.out.g1 hb) CS.out.l1 (by rw [hr0]; exact roff_is pv V B n f hv70 hs1))
        have LR := Aside0.mk (And.intro hrl hr0l)
        have HXS := Aside0.mk hX
        unfold row at EN RN
        clear he hr0 hrl hr0l hX hs1 hs2 P1 P2 P3 S1 S2 FC
        have q30 : W3.cell? ⟨wo.heap.size, 0, none⟩ = some (.slice A4 pc.length c4) := (blk_cell HE.out.h3 0).trans rfl
        have q31 : W3.cell? ⟨wo.heap.size, 1, none⟩ = some (.slice A5 pv.length c5) := (blk_cell HE.out.h3 1).trans rfl
        have q32 : W3.cell? ⟨wo.heap.size, 2, none⟩ = some (.slice A6 pb.length c6) := (blk_cell HE.out.h3 2).trans rfl
        have q33 : W3.cell? ⟨wo.heap.size, 3, none⟩ = some (.slice A7 pu.length c7) := (blk_cell HE.out.h3 3).trans rfl
        have q40 : W3.cell? ⟨wo.heap.size + 1, 0, none⟩ = some (.slice A0 V.length c0) := (blk_cell HE.out.h4 0).trans rfl
        have q41 : W3.cell? ⟨wo.heap.size + 1, 1, none⟩ = some (.slice A1 B.length c1) := (blk_cell HE.out.h4 1).trans rfl
        have q42 : W3.cell? ⟨wo.heap.size + 1, 2, none⟩ = some (.int .i64 n) := (blk_cell HE.out.h4 2).trans rfl
        have q43 : W3.cell? ⟨wo.heap.size + 1, 3, none⟩ = some (.int .i64 f) := (blk_cell HE.out.h4 3).trans rfl
        have q44 : W3.cell? ⟨wo.heap.size + 1, 4, none⟩ = some (.slice A2 W.length c2) := (blk_cell HE.out.h4 4).trans rfl
        have q45 : W3.cell? ⟨wo.heap.size + 1, 5, none⟩ = some (.slice A3 D.length c3) := (blk_cell HE.out.h4 5).trans rfl
        have q46 : W3.cell? ⟨wo.heap.size + 1, 6, none⟩ = some (.int .i64 n2) := (blk_cell HE.out.h4 6).trans rfl
        have q47 : W3.cell? ⟨wo.heap.size + 1, 7, none⟩ = some (.int .i64 f2) := (blk_cell HE.out.h4 7).trans rfl
        go_wp2_with fail
        refine (EN.out W3 HE.out.below).mono ?_
        rintro e W4 ⟨Aa, ca, Ab, cb, Ac, cc, rfl, c7_, d7_, l7_, hb⟩
        have HEn := Aside0.mk (HE.out.step hb)
        have C7 := Aside0.mk c7_
        have D7 := Aside0.mk (And.intro d7_ l7_)
        clear q30 q31 q32 q33 q40 q41 q42 q43 q44 q45 q46 q47
        clear hb HE c7_ d7_ l7_
        have HE := HEn
        clear HEn
        go_wp2_with ((with_reducible refine gate_store (t := 31) (p := 7) (v := .tmp 36) rfl ?_); refine wpList_store_row rfl 31 (.tmp 7) (.tmp 36) rfl W4.heap.size #[.slice Aa X.length ca, .slice Ab E.length cb, .int .i64 m, .int .i64 g] rfl rfl 31 _ (heap_alloc_new W4 _) (by rw [hi4]; rfl) rfl (by kernel_rfl) ?_; obtain ⟨W5, hw, hb, hn, hz⟩ := row_new W4 #[.slice none 0 0, .slice none 0 0, .int .i64 0, .int .i64 0] #[.slice Aa X.length ca, .slice Ab E.length cb, .int .i64 m, .int .i64 g] 31; rw [← hw]; have HE5 := Aside0.mk (HE.out.step hb); have C75 := Aside0.mk (C7.out.below hb); have D75 := Aside0.mk (And.intro (Kd.C_below D7.out.1 hb) D7.out.2); have H7 := Aside0.mk hn; have q30 : W5.cell? ⟨wo.heap.size, 0, none⟩ = some (.slice A4 pc.length c4) := (blk_cell HE5.out.h3 0).trans rfl; have q31 : W5.cell? ⟨wo.heap.size, 1, none⟩ = some (.slice A5 pv.length c5) := (blk_cell HE5.out.h3 1).trans rfl; have q32 : W5.cell? ⟨wo.heap.size, 2, none⟩ = some (.slice A6 pb.length c6) := (blk_cell HE5.out.h3 2).trans rfl; have q33 : W5.cell? ⟨wo.heap.size, 3, none⟩ = some (.slice A7 pu.length c7) := (blk_cell HE5.out.h3 3).trans rfl; have q40 : W5.cell? ⟨wo.heap.size + 1, 0, none⟩ = some (.slice A0 V.length c0) := (blk_cell HE5.out.h4 0).trans rfl; have q41 : W5.cell? ⟨wo.heap.size + 1, 1, none⟩ = some (.slice A1 B.length c1) := (blk_cell HE5.out.h4 1).trans rfl; have q42 : W5.cell? ⟨wo.heap.size + 1, 2, none⟩ = some (.int .i64 n) := (blk_cell HE5.out.h4 2).trans rfl; have q43 : W5.cell? ⟨wo.heap.size + 1, 3, none⟩ = some (.int .i64 f) := (blk_cell HE5.out.h4 3).trans rfl; have q44 : W5.cell? ⟨wo.heap.size + 1, 4, none⟩ = some (.slice A2 W.length c2) := (blk_cell HE5.out.h4 4).trans rfl; have q45 : W5.cell? ⟨wo.heap.size + 1, 5, none⟩ = some (.slice A3 D.length c3) := (blk_cell HE5.out.h4 5).trans rfl; have q46 : W5.cell? ⟨wo.heap.size + 1, 6, none⟩ = some (.int .i64 n2) := (blk_cell HE5.out.h4 6).trans rfl; have q47 : W5.cell? ⟨wo.heap.size + 1, 7, none⟩ = some (.int .i64 f2) := (blk_cell HE5.out.h4 7).trans rfl; clear hb hn hz hw)
        refine (RN.out W5 HE5.out.below).mono ?_
        rintro e W6 ⟨Ae, ce, Ag, cg, Ad, cd, rfl, c9_, d9_, l9_, hb⟩
        have HE6 := Aside0.mk (HE5.out.step hb)
        have C76 := Aside0.mk (C75.out.below hb)
        have D76 := Aside0.mk (And.intro (Kd.C_below D75.out.1 hb) D75.out.2)
        have H76 := Aside0.mk ((hb.block _ (blk_lt H7.out)).trans H7.out)
        have C9 := Aside0.mk c9_
        have D9 := Aside0.mk (And.intro d9_ l9_)
        clear q30 q31 q32 q33 q40 q41 q42 q43 q44 q45 q46 q47
        clear hb c9_ d9_ l9_ HE HE5 C7 C75 D7 D75 H7
        go_wp2_with ((with_reducible refine gate_store (t := 31) (p := 9) (v := .tmp 47) rfl ?_); refine wpList_store_row rfl 31 (.tmp 9) (.tmp 47) rfl W6.heap.size #[.slice Ae X.length ce, .slice Ag E.length cg, .int .i64 m, .int .i64 g] rfl rfl 31 _ (heap_alloc_new W6 _) (by rw [hi4]; rfl) rfl (by kernel_rfl) ?_; obtain ⟨W7, hw, hb, hn, hz⟩ := row_new W6 #[.slice none 0 0, .slice none 0 0, .int .i64 0, .int .i64 0] #[.slice Ae X.length ce, .slice Ag E.length cg, .int .i64 m, .int .i64 g] 31; rw [← hw]; have HE7 := Aside0.mk (HE6.out.step hb); have C77 := Aside0.mk (C76.out.below hb); have D77 := Aside0.mk (And.intro (Kd.C_below D76.out.1 hb) D76.out.2); have H77 := Aside0.mk ((hb.block _ (blk_lt H76.out)).trans H76.out); have C97 := Aside0.mk (C9.out.below hb); have D97 := Aside0.mk (And.intro (Kd.C_below D9.out.1 hb) D9.out.2); have H97 := Aside0.mk hn; clear hb hn hz hw)
        clear HE6 C76 D76 H76 C9 D9
        have SM := Aside0.mk (fun W_ (hb : Below W7.heap.size W7 W_) => same_c (n := m) (f := g) (C77.out.below hb) (C97.out.below hb) HXS.out)
        have I1 := Aside0.mk (fun W_ (hb : Below W7.heap.size W7 W_) => ladderbackref15_Ints.calls 200000 Ac cc r Ad cd r true W_ (Kd.C_below D77.out.1 hb) D77.out.2 (Kd.C_below D97.out.1 hb) D97.out.2 (by rw [ints_is r r (by have := LR.out.1; omega) 200000 (by have := LR.out.1; omega), eqB_self]))
        have I2 := Aside0.mk (fun (x y : Option Addr) (a b : Nat) W_ (h1 : Kd.C (Kd.int .i64) W_ x r0.length r0) (h2 : r0.length ≤ a) (h3 : Kd.C (Kd.int .i64) W_ y r0.length r0) (h4 : r0.length ≤ b) => ladderbackref15_Ints.calls 200000 x a r0 y b r0 true W_ h1 h2 h3 h4 (by rw [ints_is r0 r0 (by have := LR.out.2; omega) 200000 (by have := LR.out.2; omega), eqB_self]))
        unfold row at SM
        refine Reg.region_any [some 49, some 50, some 51, some 52, some 53, some 54, some 55, some 56, some 57, some 58, some 59, some 60, some 61, some 62, some 63, some 64, some 65, some 66, some 67, some 68, some 69, some 70, some 71, some 72, some 6] [0, 0, 3, 7, 15, 15, 63, 127, 255, 511, 1023, 511, 2559, 8191, 511, 16895, 511, 66047, 262143, 524287, 1048575, 2097151, 4194303, 8388607, 16777215] (true, [([], []), ([], []), ([0, 1], [0, 1]), ([2, 2], [2]), ([3], [3]), ([3], [3]), ([4, 5, 3, 3], [3, 4, 5]), ([3, 6], [3, 6]), ([7, 6], [7]), ([8], [8]), ([9, 8], [8, 9]), ([8], [8]), ([11, 8], [8, 11]), ([10, 12, 8, 8], [8, 10, 12]), ([8], [8]), ([14, 8], [8, 14]), ([8], [8]), ([16, 8], [8, 16]), ([15, 17, 13, 8], [8, 15, 17]), ([13, 18, 18, 8], [8, 13, 18]), ([8, 19], [8, 19]), ([20, 19], [20]), ([21, 21], [21]), ([21, 22], [21, 22]), ([23, 22, 0, 1, 2, 3, 4, 5, 6, 7, 8, 9, 10, 11, 12, 13, 14, 15, 16, 17, 18, 19, 20, 21, 22, 23], [23])]) (fun i => ([(fun _ v_ => v_ = (.agg #[.slice Aa X.length ca, .slice Ab E.length cb, .int .i64 m, .int .i64 g])), (fun _ v_ => v_ = (.agg #[.slice Ae X.length ce, .slice Ag E.length cg, .int .i64 m, .int .i64 g])), (fun _ v_ => v_ = (.bool true)), (fun _ v_ => v_ = (.bool true)), (fun _ v_ => v_ = (.slice Ac r.length cc)), (fun _ v_ => v_ = (.slice Ad r.length cd)), (fun _ v_ => v_ = (.bool true)), (fun _ v_ => v_ = (.bool true)), (fun _ v_ => v_ = (.bool true)), (fun _ v_ => v_ = (.pointer (some ⟨wo.heap.size, 1, none⟩))), (fun _ v_ => v_ = (.slice A5 pv.length c5)), (fun _ v_ => v_ = (.pointer (some ⟨wo.heap.size + 1, 0, none⟩))), (fun _ v_ => v_ = (.agg #[.slice A0 V.length c0, .slice A1 B.length c1, .int .i64 n, .int .i64 f])), (fun w_ v_ => Reg.Rs (Kd.int .i64) w_ v_ r0), (fun _ v_ => v_ = (.pointer (some ⟨wo.heap.size, 1, none⟩))), (fun _ v_ => v_ = (.slice A5 pv.length c5)), (fun _ v_ => v_ = (.pointer (some ⟨wo.heap.size + 1, 0, none⟩))), (fun _ v_ => v_ = (.agg #[.slice A0 V.length c0, .slice A1 B.length c1, .int .i64 n, .int .i64 f])), (fun w_ v_ => Reg.Rs (Kd.int .i64) w_ v_ r0), (fun _ v_ => v_ = (.bool true)), (fun _ v_ => v_ = (.bool true)), (fun _ v_ => v_ = (.bool true)), (fun _ v_ => v_ = (.bool true)), (fun _ v_ => v_ = (.bool true)), (fun _ v_ => v_ = (.bool true))] : List (World → Value → Prop)).getD i (fun _ _ => False))
            (by kernel_rfl) (by kernel_rfl) (by kernel_rfl) (by kernel_rfl) (by kernel_rfl) (by decide) (by rfl) (Reg.mono_getD ?_) [0, 1, 2, 3, 4, 5, 6, 7, 8, 9, 10, 11, 12, 13, 14, 15, 16, 17, 18, 19, 20, 21, 22, 23, 24] (by kernel_rfl) ?_ ?_
        · exact Reg.monoS_cons (Reg.monoS_eq _) (Reg.monoS_cons (Reg.monoS_eq _) (Reg.monoS_cons (Reg.monoS_eq _) (Reg.monoS_cons (Reg.monoS_eq _) (Reg.monoS_cons (Reg.monoS_eq _) (Reg.monoS_cons (Reg.monoS_eq _) (Reg.monoS_cons (Reg.monoS_eq _) (Reg.monoS_cons (Reg.monoS_eq _) (Reg.monoS_cons (Reg.monoS_eq _) (Reg.monoS_cons (Reg.monoS_eq _) (Reg.monoS_cons (Reg.monoS_eq _) (Reg.monoS_cons (Reg.monoS_eq _) (Reg.monoS_cons (Reg.monoS_eq _) (Reg.monoS_cons (Reg.monoS_rs _ _) (Reg.monoS_cons (Reg.monoS_eq _) (Reg.monoS_cons (Reg.monoS_eq _) (Reg.monoS_cons (Reg.monoS_eq _) (Reg.monoS_cons (Reg.monoS_eq _) (Reg.monoS_cons (Reg.monoS_rs _ _) (Reg.monoS_cons (Reg.monoS_eq _) (Reg.monoS_cons (Reg.monoS_eq _) (Reg.monoS_cons (Reg.monoS_eq _) (Reg.monoS_cons (Reg.monoS_eq _) (Reg.monoS_cons (Reg.monoS_eq _) (Reg.monoS_cons (Reg.monoS_eq _) Reg.monoS_nil))))))))))))))))))))))))
        · skip
          refine Reg.rs_cons ?_ ?_
          · intro a w hb hs hel hon
            have e7 : a.tmps[7]? = some (.pointer (some ⟨W4.heap.size, 0, none⟩)) := (hel 7 (by decide)).trans rfl
            refine ⟨_, rfl, fun K hK => ?_⟩
            rw [if_pos (by rfl)]
            exact wp_load_row 31 (.tmp 7) rfl (W4.heap.size) (Reg.eval_tmp e7) 31 _ (0, 0) _ ((hb.block _ (blk_lt H77.out)).trans H77.out) Try.underlying31 rfl (by rw [hi4]; rfl) (hK.out _ _ (Below.refl _ _) rfl)
          refine Reg.rs_cons ?_ ?_
          · intro a w hb hs hel hon
            have e9 : a.tmps[9]? = some (.pointer (some ⟨W6.heap.size, 0, none⟩)) := (hel 9 (by decide)).trans rfl
            refine ⟨_, rfl, fun K hK => ?_⟩
            rw [if_pos (by rfl)]
            exact wp_load_row 31 (.tmp 9) rfl (W6.heap.size) (Reg.eval_tmp e9) 31 _ (0, 0) _ ((hb.block _ (blk_lt H97.out)).trans H97.out) Try.underlying31 rfl (by rw [hi4]; rfl) (hK.out _ _ (Below.refl _ _) rfl)
          refine Reg.rs_cons ?_ ?_
          · intro a w hb hs hel hon
            obtain ⟨_, e49, rfl⟩ := hon 0 49 (by kernel_rfl) rfl
            obtain ⟨_, e50, rfl⟩ := hon 1 50 (by kernel_rfl) rfl
            refine ⟨_, rfl, fun K hK => ?_⟩
            refine goes_ Try.func12 (by kernel_rfl) rfl #[.agg #[.slice Aa X.length ca, .slice Ab E.length cb, .int .i64 m, .int .i64 g], .agg #[.slice Ae X.length ce, .slice Ag E.length cg, .int .i64 m, .int .i64 g]] (by rfl) rfl rfl (by first | (simp only [List.map_toArray, List.map_cons, List.map_nil, Act.eval, Array.getD_eq_getD_getElem?, Option.getD_some, e49, e50]; done) | (simp only [List.map_toArray, List.map_cons, List.map_nil, Act.eval, Array.getD_eq_getD_getElem?, Option.getD_some, e49, e50]; rfl) | rfl) ?_
            refine (SM.out w hb).mono ?_
            rintro e w2 ⟨rfl, hb2⟩
            exact ⟨_, rfl, hK.out _ _ hb2 rfl⟩
          refine Reg.rs_cons ?_ ?_
          · intro a w hb hs hel hon
            obtain ⟨_, e51, rfl⟩ := hon 2 51 (by kernel_rfl) rfl
            obtain ⟨_, g51⟩ := Array.getElem?_eq_some_iff.1 e51
            refine ⟨_, rfl, fun K hK => ?_⟩
            refine value_ (w1 := w) (v := .bool true) (by rfl) rfl ?_ (hK.out _ _ (Below.refl _ _) (rfl))
            · go_simp
              (try simp only [i64_w, g51])
              (try go_simp)
              try rfl
          refine Reg.rs_cons ?_ ?_
          · intro a w hb hs hel hon
            have e8 : a.tmps[8]? = some (.slice Ac r.length cc) := (hel 8 (by decide)).trans rfl
            obtain ⟨_, e52, rfl⟩ := hon 3 52 (by kernel_rfl) rfl
            obtain ⟨_, g8⟩ := Array.getElem?_eq_some_iff.1 e8
            obtain ⟨_, g52⟩ := Array.getElem?_eq_some_iff.1 e52
            refine ⟨_, rfl, fun K hK => ?_⟩
            refine value_ (w1 := w) (v := .slice Ac r.length cc) (wanted_on rfl rfl rfl e52) rfl ?_ (hK.out _ _ (Below.refl _ _) (rfl))
            · go_simp
              (try simp only [i64_w, g8, g52])
              (try go_simp)
              try rfl
          refine Reg.rs_cons ?_ ?_
          · intro a w hb hs hel hon
            have e10 : a.tmps[10]? = some (.slice Ad r.length cd) := (hel 10 (by decide)).trans rfl
            obtain ⟨_, e52, rfl⟩ := hon 3 52 (by kernel_rfl) rfl
            obtain ⟨_, g10⟩ := Array.getElem?_eq_some_iff.1 e10
            obtain ⟨_, g52⟩ := Array.getElem?_eq_some_iff.1 e52
            refine ⟨_, rfl, fun K hK => ?_⟩
            refine value_ (w1 := w) (v := .slice Ad r.length cd) (wanted_on rfl rfl rfl e52) rfl ?_ (hK.out _ _ (Below.refl _ _) (rfl))
            · go_simp
              (try simp only [i64_w, g10, g52])
              (try go_simp)
              try rfl
          refine Reg.rs_cons ?_ ?_
          · intro a w hb hs hel hon
            obtain ⟨_, e53, rfl⟩ := hon 4 53 (by kernel_rfl) rfl
            obtain ⟨_, e54, rfl⟩ := hon 5 54 (by kernel_rfl) rfl
            obtain ⟨_, e52, rfl⟩ := hon 3 52 (by kernel_rfl) rfl
            refine ⟨_, rfl, fun K hK => ?_⟩
            refine goes_ Try.func17 (by kernel_rfl) rfl #[.slice Ac r.length cc, .slice Ad r.length cd] (wanted_on rfl rfl rfl e52) rfl rfl (by first | (simp only [List.map_toArray, List.map_cons, List.map_nil, Act.eval, Array.getD_eq_getD_getElem?, Option.getD_some, e53, e54, e52]; done) | (simp only [List.map_toArray, List.map_cons, List.map_nil, Act.eval, Array.getD_eq_getD_getElem?, Option.getD_some, e53, e54, e52]; rfl) | rfl) ?_
            refine (I1.out w hb).mono ?_
            rintro e w2 ⟨rfl, nd_, rfl⟩
            exact ⟨_, rfl, hK.out _ _ (pw_below_drewN (Below.refl _ _) nd_) rfl⟩
          refine Reg.rs_cons ?_ ?_
          · intro a w hb hs hel hon
            obtain ⟨_, e52, rfl⟩ := hon 3 52 (by kernel_rfl) rfl
            obtain ⟨_, e55, rfl⟩ := hon 6 55 (by kernel_rfl) rfl
            obtain ⟨_, g52⟩ := Array.getElem?_eq_some_iff.1 e52
            obtain ⟨_, g55⟩ := Array.getElem?_eq_some_iff.1 e55
            refine ⟨_, rfl, fun K hK => ?_⟩
            refine value_ (w1 := w) (v := .bool true) (by rfl) rfl ?_ (hK.out _ _ (Below.refl _ _) (rfl))
            · go_simp
              (try simp only [i64_w, g52, g55])
              (try go_simp)
              try rfl
          refine Reg.rs_cons ?_ ?_
          · intro a w hb hs hel hon
            obtain ⟨_, e56, rfl⟩ := hon 7 56 (by kernel_rfl) rfl
            obtain ⟨_, g56⟩ := Array.getElem?_eq_some_iff.1 e56
            refine ⟨_, rfl, fun K hK => ?_⟩
            refine value_ (w1 := w) (v := .bool true) (by rfl) rfl ?_ (hK.out _ _ (Below.refl _ _) (rfl))
            · go_simp
              (try simp only [i64_w, g56])
              (try go_simp)
              try rfl
          refine Reg.rs_cons ?_ ?_
          · intro a w hb hs hel hon
            have e3 : a.tmps[3]? = some (.pointer (some ⟨wo.heap.size, 0, none⟩)) := (hel 3 (by decide)).trans rfl
            obtain ⟨_, e57, rfl⟩ := hon 8 57 (by kernel_rfl) rfl
            obtain ⟨_, g3⟩ := Array.getElem?_eq_some_iff.1 e3
            obtain ⟨_, g57⟩ := Array.getElem?_eq_some_iff.1 e57
            refine ⟨_, rfl, fun K hK => ?_⟩
            refine value_ (w1 := w) (v := .pointer (some ⟨wo.heap.size, 1, none⟩)) (wanted_on rfl rfl rfl e57) rfl ?_ (hK.out _ _ (Below.refl _ _) (rfl))
            · go_simp
              (try simp only [i64_w, g3, g57])
              (try go_simp)
              try rfl
          refine Reg.rs_cons ?_ ?_
          · intro a w hb hs hel hon
            obtain ⟨_, e58, rfl⟩ := hon 9 58 (by kernel_rfl) rfl
            obtain ⟨_, e57, rfl⟩ := hon 8 57 (by kernel_rfl) rfl
            obtain ⟨_, g58⟩ := Array.getElem?_eq_some_iff.1 e58
            obtain ⟨_, g57⟩ := Array.getElem?_eq_some_iff.1 e57
            refine ⟨_, rfl, fun K hK => ?_⟩
            have p1_ : w.cell? ⟨wo.heap.size, 1, none⟩ = some (.slice A5 pv.length c5) := (blk_cell ((hb.block _ (blk_lt HE7.out.h3)).trans HE7.out.h3) 1).trans rfl
            refine value_ (w1 := w) (v := .slice A5 pv.length c5) (wanted_on rfl rfl rfl e57) rfl ?_ (hK.out _ _ (Below.refl _ _) (rfl))
            · go_simp
              (try simp only [i64_w, g58, g57])
              (try go_simp)
              try rfl
          refine Reg.rs_cons ?_ ?_
          · intro a w hb hs hel hon
            have e4 : a.tmps[4]? = some (.pointer (some ⟨wo.heap.size + 1, 0, none⟩)) := (hel 4 (by decide)).trans rfl
            obtain ⟨_, e57, rfl⟩ := hon 8 57 (by kernel_rfl) rfl
            obtain ⟨_, g4⟩ := Array.getElem?_eq_some_iff.1 e4
            obtain ⟨_, g57⟩ := Array.getElem?_eq_some_iff.1 e57
            refine ⟨_, rfl, fun K hK => ?_⟩
            refine value_ (w1 := w) (v := .pointer (some ⟨wo.heap.size + 1, 0, none⟩)) (wanted_on rfl rfl rfl e57) rfl ?_ (hK.out _ _ (Below.refl _ _) (rfl))
            · go_simp
              (try simp only [i64_w, g4, g57])
              (try go_simp)
              try rfl
          refine Reg.rs_cons ?_ ?_
          · intro a w hb hs hel hon
            obtain ⟨_, e60, rfl⟩ := hon 11 60 (by kernel_rfl) rfl
            obtain ⟨_, e57, rfl⟩ := hon 8 57 (by kernel_rfl) rfl
            obtain ⟨_, g60⟩ := Array.getElem?_eq_some_iff.1 e60
            obtain ⟨_, g57⟩ := Array.getElem?_eq_some_iff.1 e57
            refine ⟨_, rfl, fun K hK => ?_⟩
            have p0_ : w.cell? ⟨wo.heap.size + 1, 0, none⟩ = some (.slice A0 V.length c0) := (blk_cell ((hb.block _ (blk_lt HE7.out.h4)).trans HE7.out.h4) 0).trans rfl
            have p1_ : w.cell? ⟨wo.heap.size + 1, 1, none⟩ = some (.slice A1 B.length c1) := (blk_cell ((hb.block _ (blk_lt HE7.out.h4)).trans HE7.out.h4) 1).trans rfl
            have p2_ : w.cell? ⟨wo.heap.size + 1, 2, none⟩ = some (.int .i64 n) := (blk_cell ((hb.block _ (blk_lt HE7.out.h4)).trans HE7.out.h4) 2).trans rfl
            have p3_ : w.cell? ⟨wo.heap.size + 1, 3, none⟩ = some (.int .i64 f) := (blk_cell ((hb.block _ (blk_lt HE7.out.h4)).trans HE7.out.h4) 3).trans rfl
            refine value_ (w1 := w) (v := .agg #[.slice A0 V.length c0, .slice A1 B.length c1, .int .i64 n, .int .i64 f]) (wanted_on rfl rfl rfl e57) rfl ?_ (hK.out _ _ (Below.refl _ _) (rfl))
            · go_simp
              (try simp only [i64_w, g60, g57])
              (try go_simp)
              try rfl
          refine Reg.rs_cons ?_ ?_
          · intro a w hb hs hel hon
            obtain ⟨_, e59, rfl⟩ := hon 10 59 (by kernel_rfl) rfl
            obtain ⟨_, e61, rfl⟩ := hon 12 61 (by kernel_rfl) rfl
            obtain ⟨_, e57, rfl⟩ := hon 8 57 (by kernel_rfl) rfl
            refine ⟨_, rfl, fun K hK => ?_⟩
            refine goes_ Try.func18 (by kernel_rfl) rfl #[.slice A5 pv.length c5, .agg #[.slice A0 V.length c0, .slice A1 B.length c1, .int .i64 n, .int .i64 f]] (wanted_on rfl rfl rfl e57) rfl rfl (by first | (simp only [List.map_toArray, List.map_cons, List.map_nil, Act.eval, Array.getD_eq_getD_getElem?, Option.getD_some, e59, e61, e57]; done) | (simp only [List.map_toArray, List.map_cons, List.map_nil, Act.eval, Array.getD_eq_getD_getElem?, Option.getD_some, e59, e61, e57]; rfl) | rfl) ?_
            refine (OF.out w (HE7.out.below.trans (hb.mono HE7.out.below.size))).mono ?_
            rintro e w2 ⟨v0_, rfl, ho_, hb2⟩
            exact ⟨_, rfl, hK.out _ _ hb2 (Kd.R_reads ho_)⟩
          refine Reg.rs_cons ?_ ?_
          · intro a w hb hs hel hon
            have e3 : a.tmps[3]? = some (.pointer (some ⟨wo.heap.size, 0, none⟩)) := (hel 3 (by decide)).trans rfl
            obtain ⟨_, e57, rfl⟩ := hon 8 57 (by kernel_rfl) rfl
            obtain ⟨_, g3⟩ := Array.getElem?_eq_some_iff.1 e3
            obtain ⟨_, g57⟩ := Array.getElem?_eq_some_iff.1 e57
            refine ⟨_, rfl, fun K hK => ?_⟩
            refine value_ (w1 := w) (v := .pointer (some ⟨wo.heap.size, 1, none⟩)) (wanted_on rfl rfl rfl e57) rfl ?_ (hK.out _ _ (Below.refl _ _) (rfl))
            · go_simp
              (try simp only [i64_w, g3, g57])
              (try go_simp)
              try rfl
          refine Reg.rs_cons ?_ ?_
          · intro a w hb hs hel hon
            obtain ⟨_, e63, rfl⟩ := hon 14 63 (by kernel_rfl) rfl
            obtain ⟨_, e57, rfl⟩ := hon 8 57 (by kernel_rfl) rfl
            obtain ⟨_, g63⟩ := Array.getElem?_eq_some_iff.1 e63
            obtain ⟨_, g57⟩ := Array.getElem?_eq_some_iff.1 e57
            refine ⟨_, rfl, fun K hK => ?_⟩
            have p1_ : w.cell? ⟨wo.heap.size, 1, none⟩ = some (.slice A5 pv.length c5) := (blk_cell ((hb.block _ (blk_lt HE7.out.h3)).trans HE7.out.h3) 1).trans rfl
            refine value_ (w1 := w) (v := .slice A5 pv.length c5) (wanted_on rfl rfl rfl e57) rfl ?_ (hK.out _ _ (Below.refl _ _) (rfl))
            · go_simp
              (try simp only [i64_w, g63, g57])
              (try go_simp)
              try rfl
          refine Reg.rs_cons ?_ ?_
          · intro a w hb hs hel hon
            have e4 : a.tmps[4]? = some (.pointer (some ⟨wo.heap.size + 1, 0, none⟩)) := (hel 4 (by decide)).trans rfl
            obtain ⟨_, e57, rfl⟩ := hon 8 57 (by kernel_rfl) rfl
            obtain ⟨_, g4⟩ := Array.getElem?_eq_some_iff.1 e4
            obtain ⟨_, g57⟩ := Array.getElem?_eq_some_iff.1 e57
            refine ⟨_, rfl, fun K hK => ?_⟩
            refine value_ (w1 := w) (v := .pointer (some ⟨wo.heap.size + 1, 0, none⟩)) (wanted_on rfl rfl rfl e57) rfl ?_ (hK.out _ _ (Below.refl _ _) (rfl))
            · go_simp
              (try simp only [i64_w, g4, g57])
              (try go_simp)
              try rfl
          refine Reg.rs_cons ?_ ?_
          · intro a w hb hs hel hon
            obtain ⟨_, e65, rfl⟩ := hon 16 65 (by kernel_rfl) rfl
            obtain ⟨_, e57, rfl⟩ := hon 8 57 (by kernel_rfl) rfl
            obtain ⟨_, g65⟩ := Array.getElem?_eq_some_iff.1 e65
            obtain ⟨_, g57⟩ := Array.getElem?_eq_some_iff.1 e57
            refine ⟨_, rfl, fun K hK => ?_⟩
            have p0_ : w.cell? ⟨wo.heap.size + 1, 0, none⟩ = some (.slice A0 V.length c0) := (blk_cell ((hb.block _ (blk_lt HE7.out.h4)).trans HE7.out.h4) 0).trans rfl
            have p1_ : w.cell? ⟨wo.heap.size + 1, 1, none⟩ = some (.slice A1 B.length c1) := (blk_cell ((hb.block _ (blk_lt HE7.out.h4)).trans HE7.out.h4) 1).trans rfl
            have p2_ : w.cell? ⟨wo.heap.size + 1, 2, none⟩ = some (.int .i64 n) := (blk_cell ((hb.block _ (blk_lt HE7.out.h4)).trans HE7.out.h4) 2).trans rfl
            have p3_ : w.cell? ⟨wo.heap.size + 1, 3, none⟩ = some (.int .i64 f) := (blk_cell ((hb.block _ (blk_lt HE7.out.h4)).trans HE7.out.h4) 3).trans rfl
            refine value_ (w1 := w) (v := .agg #[.slice A0 V.length c0, .slice A1 B.length c1, .int .i64 n, .int .i64 f]) (wanted_on rfl rfl rfl e57) rfl ?_ (hK.out _ _ (Below.refl _ _) (rfl))
            · go_simp
              (try simp only [i64_w, g65, g57])
              (try go_simp)
              try rfl
          refine Reg.rs_cons ?_ ?_
          · intro a w hb hs hel hon
            obtain ⟨_, e64, rfl⟩ := hon 15 64 (by kernel_rfl) rfl
            obtain ⟨_, e66, rfl⟩ := hon 17 66 (by kernel_rfl) rfl
            obtain ⟨_, e57, rfl⟩ := hon 8 57 (by kernel_rfl) rfl
            refine ⟨_, rfl, fun K hK => ?_⟩
            refine goes_ Try.func19 (by kernel_rfl) rfl #[.slice A5 pv.length c5, .agg #[.slice A0 V.length c0, .slice A1 B.length c1, .int .i64 n, .int .i64 f]] (wanted_on rfl rfl rfl e57) rfl rfl (by first | (simp only [List.map_toArray, List.map_cons, List.map_nil, Act.eval, Array.getD_eq_getD_getElem?, Option.getD_some, e64, e66, e57]; done) | (simp only [List.map_toArray, List.map_cons, List.map_nil, Act.eval, Array.getD_eq_getD_getElem?, Option.getD_some, e64, e66, e57]; rfl) | rfl) ?_
            refine (RO.out w (HE7.out.below.trans (hb.mono HE7.out.below.size))).mono ?_
            rintro e w2 ⟨v0_, rfl, ho_, hb2⟩
            exact ⟨_, rfl, hK.out _ _ hb2 (Kd.R_reads ho_)⟩
          refine Reg.rs_cons ?_ ?_
          · intro a w hb hs hel hon
            obtain ⟨x62, e62, ⟨A_13, c_13, rfl, hl_13, hC_13⟩⟩ := hon 13 62 (by kernel_rfl) rfl
            obtain ⟨x67, e67, ⟨A_18, c_18, rfl, hl_18, hC_18⟩⟩ := hon 18 67 (by kernel_rfl) rfl
            obtain ⟨_, e57, rfl⟩ := hon 8 57 (by kernel_rfl) rfl
            refine ⟨_, rfl, fun K hK => ?_⟩
            refine goes_ Try.func17 (by kernel_rfl) rfl #[.slice A_13 r0.length c_13, .slice A_18 r0.length c_18] (wanted_on rfl rfl rfl e57) rfl rfl (by first | (simp only [List.map_toArray, List.map_cons, List.map_nil, Act.eval, Array.getD_eq_getD_getElem?, Option.getD_some, e62, e67, e57]; done) | (simp only [List.map_toArray, List.map_cons, List.map_nil, Act.eval, Array.getD_eq_getD_getElem?, Option.getD_some, e62, e67, e57]; rfl) | rfl) ?_
            refine (I2.out A_13 A_18 c_13 c_18 w hC_13 hl_13 hC_18 hl_18).mono ?_
            rintro e w2 ⟨rfl, nd_, rfl⟩
            exact ⟨_, rfl, hK.out _ _ (pw_below_drewN (Below.refl _ _) nd_) rfl⟩
          refine Reg.rs_cons ?_ ?_
          · intro a w hb hs hel hon
            obtain ⟨_, e57, rfl⟩ := hon 8 57 (by kernel_rfl) rfl
            obtain ⟨_, e68, rfl⟩ := hon 19 68 (by kernel_rfl) rfl
            obtain ⟨_, g57⟩ := Array.getElem?_eq_some_iff.1 e57
            obtain ⟨_, g68⟩ := Array.getElem?_eq_some_iff.1 e68
            refine ⟨_, rfl, fun K hK => ?_⟩
            refine value_ (w1 := w) (v := .bool true) (by rfl) rfl ?_ (hK.out _ _ (Below.refl _ _) (rfl))
            · go_simp
              (try simp only [i64_w, g57, g68])
              (try go_simp)
              try rfl
          refine Reg.rs_cons ?_ ?_
          · intro a w hb hs hel hon
            obtain ⟨_, e69, rfl⟩ := hon 20 69 (by kernel_rfl) rfl
            obtain ⟨_, g69⟩ := Array.getElem?_eq_some_iff.1 e69
            refine ⟨_, rfl, fun K hK => ?_⟩
            refine value_ (w1 := w) (v := .bool true) (by rfl) rfl ?_ (hK.out _ _ (Below.refl _ _) (rfl))
            · go_simp
              (try simp only [i64_w, g69])
              (try go_simp)
              try rfl
          refine Reg.rs_cons ?_ ?_
          · intro a w hb hs hel hon
            obtain ⟨_, e70, rfl⟩ := hon 21 70 (by kernel_rfl) rfl
            refine ⟨_, rfl, fun K hK => ?_⟩
            refine goes_ Try.func10 (by kernel_rfl) rfl #[] (wanted_on rfl rfl rfl e70) rfl rfl (by first | (simp only [List.map_toArray, List.map_cons, List.map_nil, Act.eval, Array.getD_eq_getD_getElem?, Option.getD_some, e70]; done) | (simp only [List.map_toArray, List.map_cons, List.map_nil, Act.eval, Array.getD_eq_getD_getElem?, Option.getD_some, e70]; rfl) | rfl) ?_
            refine (awake24_c w).mono ?_
            rintro e w2 ⟨rfl, hb2⟩
            exact ⟨_, rfl, hK.out _ _ hb2 rfl⟩
          refine Reg.rs_cons ?_ ?_
          · intro a w hb hs hel hon
            obtain ⟨_, e70, rfl⟩ := hon 21 70 (by kernel_rfl) rfl
            obtain ⟨_, e71, rfl⟩ := hon 22 71 (by kernel_rfl) rfl
            obtain ⟨_, g70⟩ := Array.getElem?_eq_some_iff.1 e70
            obtain ⟨_, g71⟩ := Array.getElem?_eq_some_iff.1 e71
            refine ⟨_, rfl, fun K hK => ?_⟩
            refine value_ (w1 := w) (v := .bool true) (by rfl) rfl ?_ (hK.out _ _ (Below.refl _ _) (rfl))
            · go_simp
              (try simp only [i64_w, g70, g71])
              (try go_simp)
              try rfl
          refine Reg.rs_cons ?_ ?_
          · intro a w hb hs hel hon
            obtain ⟨_, e72, rfl⟩ := hon 23 72 (by kernel_rfl) rfl
            obtain ⟨_, g72⟩ := Array.getElem?_eq_some_iff.1 e72
            refine ⟨_, rfl, fun K hK => ?_⟩
            refine value_ (w1 := w) (v := .bool true) (by rfl) rfl ?_ (hK.out _ _ (Below.refl _ _) (rfl))
            · go_simp
              (try simp only [i64_w, g72])
              (try go_simp)
              try rfl
          exact Reg.rs_nil
        · intro a w hI
          rename_i K_ hK_
          refine hK_ a w ?_
          go_wp2
          obtain ⟨v6, e6, rfl⟩ := hI.vals 24 6 rfl rfl
          exact Reg.ret_slot (R := fun e w' => e = .returned (.bool true) ∧ Below _ _ w') (by kernel_rfl) hI.defers e6 ⟨rfl, HE7.out.below.trans (hI.below.mono HE7.out.below.size)⟩
end StE
end Go.Proofs.Ytamajfcjcfkkjaa
end

section
/- The walk of CycleEnds over what is read as data. -/
namespace Go.Proofs.Ytamajfcjcfkkjaa
open Go Go.RowKit Go.Proofs.Ytamajfcjcfkkjaa.PSt Go.Proofs.YtamajfcjcfkkjaaW.PrintWords
theorem rd_twost : Bridge.Rdga Try.prog 40 (Kd.arr 2 StRow.KState (by decide)) (fun l => ∀ a ∈ l, True) :=
  Bridge.Rdg.arraya Try.underlying40 (by kernel_rfl) StRow.rd_state
theorem CycleEnds_walk (cp : Array Value) (p : List S104 × List S60 × List S62 × List S66) (ct : Array Value) (t : List (List (List Int) × List S69 × Int × Int)) (ft : Int) (w : World) (hp : StRow.KProg.K w p cp.toList) (_ : True) (ht : (Kd.arr 2 StRow.KState (by decide)).K w t ct.toList) (_ : ∀ a ∈ t, True) (_ : (Lit.int .i64 ft).wf = true) :
    Calls Try.prog 4 #[.agg cp, .agg ct, .int .i64 ft] w fun e w' => e = .returned (.bool true) ∧ Below w.heap.size w w' := by
  obtain ⟨A4, c4, A5, c5, A6, c6, A7, c7, rfl, ⟨g4, l4⟩, ⟨g5, l5⟩, ⟨g6, l6⟩, ⟨g7, l7⟩⟩ := StRow.prog_of hp
  obtain ⟨hl, hn, hK⟩ := ht
  match t, hl with
  | [a, b], _ =>
    have hlen : ct.toList.length = 8 := hn
    have ka := hK 0 a rfl
    have kb := hK 1 b rfl
    obtain ⟨A0, c0, A1, c1, e0, ⟨g0, l0⟩, ⟨g1, l1⟩⟩ := StRow.state_of (cs := ((ct.toList.drop (0 * 4)).take 4).toArray) (by rw [List.toList_toArray]; exact ka)
    obtain ⟨A2, c2, A3, c3, e1, ⟨g2, l2⟩, ⟨g3, l3⟩⟩ := StRow.state_of (cs := ((ct.toList.drop (1 * 4)).take 4).toArray) (by rw [List.toList_toArray]; exact kb)
    have f0 := congrArg Array.toList e0
    have f1 := congrArg Array.toList e1
    rw [List.toList_toArray] at f0 f1
    have hc : ct.toList = ct.toList.take 4 ++ (ct.toList.drop 4).take 4 := by
      rw [List.take_of_length_le (l := ct.toList.drop 4) (by rw [List.length_drop]; omega), List.take_append_drop]
    rw [Nat.zero_mul, List.drop_zero] at f0
    rw [Nat.one_mul] at f1
    rw [f0, f1] at hc
    obtain rfl : ct = #[.slice A0 a.1.length c0, .slice A1 a.2.1.length c1, .int .i64 a.2.2.1, .int .i64 a.2.2.2, .slice A2 b.1.length c2, .slice A3 b.2.1.length c3, .int .i64 b.2.2.1, .int .i64 b.2.2.2] := by
      rw [show ct = ct.toList.toArray by simp, hc]
      rfl
    exact StE.CycleEnds_w A0 A1 A2 A3 A4 A5 A6 A7 c0 c1 c2 c3 c4 c5 c6 c7 p.1 p.2.1 p.2.2.1 p.2.2.2 a.1 a.2.1 a.2.2.1 a.2.2.2 b.1 b.2.1 b.2.2.1 b.2.2.2 ft w g4 l4 g5 l5 g6 l6 g7 l7 ⟨g0, l0, g1, l1⟩ ⟨g2, l2, g3, l3⟩
end Go.Proofs.Ytamajfcjcfkkjaa
end

section
/- The law CycleEnds holds for every input: the walk over its code shows that the call returns true and that what was read stays as it was; the row follows. -/
namespace Go.Proofs.Ytamajfcjcfkkjaa.cycleEndsRw
open Go.ChangeShapes Go.WideShapes Go.ChangeAt Go.RowKit
open Go.ChangeMaps (open_string shut_string)
open Go.Proofs.Ytamajfcjcfkkjaa.Bridge
set_option linter.unusedVariables false
set_option linter.unusedSimpArgs false
theorem own : ownKnob Try.prog.godebug = none := by kernel_rfl
theorem laidOut : laidOutB Try.prog = true := by kernel_rfl
set_option maxRecDepth 100000 in
theorem lifted (os : Os) (started : os.Started) (H : Type) (enc : TypeId × Value → H) :
    ReturnsInHanded {} Try.checked os 4 .any (Rows.cycleEndsSpec.pre6 enc Try.prog Try.f4 Rows.cycleEndsRow.domain false) (Rows.cycleEndsSpec.post enc Try.prog Try.f4 false true false false) := by
  refine returnsInHanded_of_change_sized (C := Try.checked) own started (by kernel_rfl) Try.func4
    (ChangeSpec.witness6 (enc := enc) (C := Try.checked) false ⟨#[], #[.agg #[.slice none 0 0, .slice none 0 0, .slice none 0 0, .slice none 0 0], .agg #[.slice none 0 0, .slice none 0 0, .int .i64 0, .int .i64 0, .slice none 0 0, .slice none 0 0, .int .i64 0, .int .i64 0], .int .i64 0], []⟩ 8 (by kernel_rfl) (by kernel_rfl) (by kernel_rfl) (by kernel_rfl)) ?_
  intro W base args ds gs before hval0 hW hcnd hsz0 _
  have hval : ∀ (j : Nat) t v, Try.f4.params[j]? = some t → args[j]? = some v → Value.okWide Try.prog W .any base t v := hval0
  have hsz : (DataW.weightsEach Try.prog (Try.f4.params.toList ++ Rows.cycleEndsSpec.plain.varTypes Try.prog) (ds ++ gs)).all (· ≤ reachBytes) = true := hsz0
  clear hval0 hsz0 hcnd
  have hW' := hW
  obtain ⟨p, q, hA0, hV, rfl, hfz, hnd⟩ := hW
  have hA : DataW.TrodAll enc Try.prog W 0 (fun _ => true) true Try.f4.params.toList args.toList ds p := hA0
  rw [Try.params4] at hA hval hsz
  obtain ⟨v0, vs0, d0, ds0, p0, q0, hargs, rfl, rfl, h0, r0⟩ := trodAll_cons hA
  obtain ⟨v1, vs1, d1, ds1, p1, q1, rfl, rfl, rfl, h1, r1⟩ := trodAll_cons r0
  obtain ⟨v2, vs2, d2, ds2, p2, q2, rfl, rfl, rfl, h2, r2⟩ := trodAll_cons r1
  obtain ⟨rfl, rfl, rfl⟩ := trodAll_nil r2
  obtain rfl : args = #[v0, v1, v2] := by cases args; simp_all
  obtain ⟨rfl, rfl⟩ := trodVars_none hV
  clear hA0
  have k0 := h0
  have lt0 : ∀ x ∈ p0, x.block < W.heap.size := by obtain ⟨m, hm⟩ := k0; exact DataW.trod_lt m _ _ _ hm
  obtain ⟨cs0, rfl⟩ : ∃ cs, v0 = .agg cs := by
    have z := (hval 0 27 v0 rfl rfl)
    unfold Value.okWide at z
    rw [Try.underlying27] at z
    obtain ⟨cs, e, _⟩ := z
    exact ⟨cs, e⟩
  obtain ⟨x0, hk0, wf0⟩ := Rdga.trod StRow.rd_prog h0
  have k1 := h1
  have lt1 : ∀ x ∈ p1, x.block < W.heap.size := by obtain ⟨m, hm⟩ := k1; exact DataW.trod_lt m _ _ _ hm
  obtain ⟨cs1, rfl⟩ : ∃ cs, v1 = .agg cs := by
    have z := (hval 1 40 v1 rfl rfl)
    unfold Value.okWide at z
    rw [Try.underlying40] at z
    obtain ⟨cs, e, _⟩ := z
    exact ⟨cs, e⟩
  obtain ⟨x1, hk1, wf1⟩ := Rdga.trod rd_twost h1
  have k2 := h2
  have lt2 : ∀ x ∈ p2, x.block < W.heap.size := by obtain ⟨m, hm⟩ := k2; exact DataW.trod_lt m _ _ _ hm
  obtain ⟨a2, rfl, _, _, w2⟩ := open_int Try.underlying3 (hval 2 3 v2 rfl rfl) h2
  refine (CycleEnds_walk cs0 x0 cs1 x1 a2 W hk0 wf0 hk1 wf1 w2).mono fun e W' ⟨he, bel⟩ => ?_
  subst he
  exact ⟨_, rfl, _, _, _, [], _, [], hW', trodAll_mk1 (shut_bool Try.underlying4 _), (trodAll_cons_mk (Below.trod laidOut (by kernel_rfl) (of_decide_eq_true (by kernel_rfl)) k0 bel lt0) (trodAll_cons_mk (Below.trod laidOut (by kernel_rfl) (of_decide_eq_true (by kernel_rfl)) k1 bel lt1) (trodAll_cons_mk (Below.trod laidOut (by kernel_rfl) (of_decide_eq_true (by kernel_rfl)) k2 bel lt2) trodAll_mk0))), rfl, bel.frame _, fun h => by cases h⟩
theorem over : Rows.cycleEndsRow.holds Try.pinned (OpenSpec.ofChange Rows.cycleEndsSpec) :=
  OpenClaim.holds_of_wide 4 Try.f4 rfl rfl rfl rfl rfl rfl rfl ⟨rfl, rfl, rfl, rfl, rfl⟩ rfl rfl rfl rfl rfl (by kernel_rfl) Try.func4 (by kernel_rfl)
    (of_decide_eq_true (by kernel_rfl)) (by unfold Func.isWrapper; first | (rw [if_pos (by decide +kernel)]; kernel_rfl) | (rw [if_neg (by decide +kernel)]; exact ⟨rfl, rfl⟩))
    (fun os started H enc _ => lifted os started H enc)
theorem proved : Rows.CycleEndsSaid := over
end Go.Proofs.Ytamajfcjcfkkjaa.cycleEndsRw
namespace Go.Proofs.Ytamajfcjcfkkjaa
theorem cycleEnds_holds : Rows.CycleEndsSaid := cycleEndsRw.proved
#print axioms cycleEnds_holds
end Go.Proofs.Ytamajfcjcfkkjaa
end
