/- state.Same, walked by hand: whether two states are the same; any two. -/
import Derived.Test.YtamajfcjcfkkjaaZStateSameab
import Derived.Test.YtamajfcjcfkkjaaZStateSameac
import Derived.Test.YtamajfcjcfkkjaaZStateSamead
import Derived.Test.YtamajfcjcfkkjaaZStateSameae
/- state.Same, walked by hand: whether two states are the same; any two. -/
namespace Go.Proofs.Ytamajfcjcfkkjaa.Given
set_option linter.unusedVariables false
set_option linter.unusedSimpArgs false
open Go.RowKit Go.Proofs.Ytamajfcjcfkkjaa.PSt Go.Proofs.Ytamajfcjcfkkjaa.RPure Go.Proofs.YtamajfcjcfkkjaaW.PrintWords Go.Proofs.YtamajfcjcfkkjaaW.PrintLast Go.Proofs.YtamajfcjcfkkjaaW.PrintMore
def instA (x : S69) : Array Value := #[.int .i64 x.f0.f0, .int .i64 x.f0.f1, .int .i64 x.f0.f2, .int .i64 x.f0.f3, .int .i64 x.f0.f4, .int .i64 x.f0.f5, .int .i64 x.f0.f6, .int .i64 x.f0.f7, .int .i64 x.f0.f8, .int .i64 x.f0.f9]
attribute [local go_sem high] eqA69
/-- Two boxes, in a later world. -/
structure TwoB (w W : World) (t : Nat) (cs ds : Array Value) : Prop where
  below : Below w.heap.size w W
  a : W.heap[w.heap.size]? = some (.cells cs t (0, 0))
  b : W.heap[w.heap.size + 1]? = some (.cells ds t (0, 0))
theorem TwoB.step {w W W2 : World} {t : Nat} {cs ds : Array Value} (h : TwoB w W t cs ds) (hb : Below W.heap.size W W2) : TwoB w W2 t cs ds :=
  ⟨h.below.trans (hb.mono h.below.size), (hb.block _ (blk_lt h.a)).trans h.a, (hb.block _ (blk_lt h.b)).trans h.b⟩
theorem below_row {w : World} {t : Nat} (cs ds : Array Value) : Below w.heap.size w ((w.alloc (.cells cs t)).setRow w.heap.size ds) :=
  below_setRow ((Below.refl _ _).alloc (Nat.le_refl _) _) (Nat.le_refl _) _
set_option maxHeartbeats 4000000 in
theorem same_w (A0 A1 A2 A3 : Option Addr) (c0 c1 c2 c3 : Nat) (V W : LL) (B C : LI) (n f n2 f2 : Int) (w : World)
    (g0 : Kd.C (Kd.slice 3 (Kd.int .i64)) w A0 V.length V) (l0 : V.length ≤ c0) (g1 : Kd.C k69 w A1 B.length B) (l1 : B.length ≤ c1)
    (g2 : Kd.C (Kd.slice 3 (Kd.int .i64)) w A2 W.length W) (l2 : W.length ≤ c2) (g3 : Kd.C k69 w A3 C.length C) (l3 : C.length ≤ c3) :
    Calls Try.prog 30 #[.agg #[.slice A0 V.length c0, .slice A1 B.length c1, .int .i64 n, .int .i64 f], .agg #[.slice A2 W.length c2, .slice A3 C.length c3, .int .i64 n2, .int .i64 f2]] w fun e w' => e = .returned (.bool (eqB (V, B, n, f) (W, C, n2, f2))) ∧ Below w.heap.size w w' := by
  have HX := Aside0.mk (show TwoB w ((w.alloc (.cells #[.slice A0 V.length c0, .slice A1 B.length c1, .int .i64 n, .int .i64 f] 31)).alloc (.cells #[.slice A2 W.length c2, .slice A3 C.length c3, .int .i64 n2, .int .i64 f2] 31)) 31 #[.slice A0 V.length c0, .slice A1 B.length c1, .int .i64 n, .int .i64 f] #[.slice A2 W.length c2, .slice A3 C.length c3, .int .i64 n2, .int .i64 f2] from ⟨((Below.refl w.heap.size w).alloc (Nat.le_refl _) _).alloc (by simp) _, heap_alloc2_old w _ _, heap_alloc2_new w _ _⟩)
  have G0 := Aside0.mk g0
  have G1 := Aside0.mk g1
  have G2 := Aside0.mk g2
  have G3 := Aside0.mk g3
  have hm1 := g1.2.1
  have hi : (Try.prog.info? 69).map (·.size) = some 10 := by kernel_rfl
  clear g0 g1 g2 g3
  have LL4 := Aside0.mk (And.intro l0 (And.intro l1 (And.intro l2 l3)))
  clear l0 l1 l2 l3
  by_cases h1 : n = n2
  · by_cases h2 : f = f2
    · by_cases h3 : B.length = C.length
      · subst h1 h2
        obtain ⟨N, hB⟩ : ∃ N, B.length = N := ⟨_, rfl⟩
        have hC : C.length = N := by omega
        rw [hB] at HX hm1 G1 ⊢
        rw [hC] at HX G3 ⊢
        have HN := Aside0.mk (And.intro hB hC)
        clear h3 hB hC
        go_enter Try.func30, Try.ntmps30
        go_wp2_with fail
        generalize ((w.alloc (.cells #[.slice A0 V.length c0, .slice A1 N c1, .int .i64 n, .int .i64 f] 31)).alloc (.cells #[.slice A2 W.length c2, .slice A3 N c3, .int .i64 n, .int .i64 f] 31)) = w1 at *
        go_loopw [31] (fun x wr => ∃ j : Nat, j ≤ N ∧ x = .int .i64 j ∧ Aside0 (∀ k, k < j → B[k]? = C[k]?) ∧ Aside0 (TwoB w wr 31 #[.slice A0 V.length c0, .slice A1 N c1, .int .i64 n, .int .i64 f] #[.slice A2 W.length c2, .slice A3 N c3, .int .i64 n, .int .i64 f])) (fun x _ => N - (intOf x).toNat)
        case atStart => exact ⟨0, Nat.zero_le _, rfl, ⟨fun k hk => by omega⟩, HX⟩
        case round =>
          clear HX
          obtain ⟨j, hj, rfl, HE, HX⟩ := hrel
          by_cases hlt : j < N
          · obtain ⟨ad, rfl, k0, k1, k2, k3, k4, k5, k6, k7, k8, k9⟩ := at_T69 (Kd.C_below G1.out HX.out.below) (j : Int) (by omega) (by omega)
            rw [Int.toNat_natCast] at k0 k1 k2 k3 k4 k5 k6 k7 k8 k9
            go_wp2_with ((with_reducible refine gate_store (t := 69) (p := 6) (v := .tmp 35) rfl ?_); refine wpList_store_row rfl 69 (.tmp 6) (.tmp 35) rfl wr.heap.size (instA (rd_T69 B j)) rfl rfl 69 _ (heap_alloc_new wr _) (by rw [hi]; rfl) rfl (by kernel_rfl) ?_)
            obtain ⟨W2, hW2⟩ : ∃ W2, W2 = (wr.alloc (.cells #[.int .i64 0, .int .i64 0, .int .i64 0, .int .i64 0, .int .i64 0, .int .i64 0, .int .i64 0, .int .i64 0, .int .i64 0, .int .i64 0] 69)).setRow wr.heap.size (instA (rd_T69 B j)) := ⟨_, rfl⟩
            have hb2 : Below wr.heap.size wr W2 := hW2 ▸ below_row _ _
            have hr2 : W2.heap[wr.heap.size]? = some (.cells (instA (rd_T69 B j)) 69 (0, 0)) := hW2 ▸ setRow_heap _ _ _ _ _ _ (heap_alloc_new wr _)
            rw [← hW2]
            have HX2 := Aside0.mk (HX.out.step hb2)
            clear hW2 k0 k1 k2 k3 k4 k5 k6 k7 k8 k9
            obtain ⟨ad3, rfl, k0, k1, k2, k3, k4, k5, k6, k7, k8, k9⟩ := at_T69 (Kd.C_below G3.out HX2.out.below) (j : Int) (by omega) (by omega)
            rw [Int.toNat_natCast] at k0 k1 k2 k3 k4 k5 k6 k7 k8 k9
            have r0 : W2.cell? ⟨wr.heap.size, 0, none⟩ = some (.int .i64 (rd_T69 B j).f0.f0) := (blk_cell hr2 0).trans rfl
            have r1 : W2.cell? ⟨wr.heap.size, 1, none⟩ = some (.int .i64 (rd_T69 B j).f0.f1) := (blk_cell hr2 1).trans rfl
            have r2 : W2.cell? ⟨wr.heap.size, 2, none⟩ = some (.int .i64 (rd_T69 B j).f0.f2) := (blk_cell hr2 2).trans rfl
            have r3 : W2.cell? ⟨wr.heap.size, 3, none⟩ = some (.int .i64 (rd_T69 B j).f0.f3) := (blk_cell hr2 3).trans rfl
            have r4 : W2.cell? ⟨wr.heap.size, 4, none⟩ = some (.int .i64 (rd_T69 B j).f0.f4) := (blk_cell hr2 4).trans rfl
            have r5 : W2.cell? ⟨wr.heap.size, 5, none⟩ = some (.int .i64 (rd_T69 B j).f0.f5) := (blk_cell hr2 5).trans rfl
            have r6 : W2.cell? ⟨wr.heap.size, 6, none⟩ = some (.int .i64 (rd_T69 B j).f0.f6) := (blk_cell hr2 6).trans rfl
            have r7 : W2.cell? ⟨wr.heap.size, 7, none⟩ = some (.int .i64 (rd_T69 B j).f0.f7) := (blk_cell hr2 7).trans rfl
            have r8 : W2.cell? ⟨wr.heap.size, 8, none⟩ = some (.int .i64 (rd_T69 B j).f0.f8) := (blk_cell hr2 8).trans rfl
            have r9 : W2.cell? ⟨wr.heap.size, 9, none⟩ = some (.int .i64 (rd_T69 B j).f0.f9) := (blk_cell hr2 9).trans rfl
            have q0 : W2.cell? ⟨w.heap.size + 1, 1, none⟩ = some (.slice (some ad3) N c3) := (blk_cell HX2.out.b 1).trans rfl
            clear hr2 hb2
            have hlb : j < B.length := by have := HN.out; omega
            have hlc : j < C.length := by have := HN.out; omega
            by_cases he : B[j] = C[j]
            · have hq := inst_eq (rd_T69 B j) (rd_T69 C j)
              rw [rdI B j hlb, rdI C j hlc] at *
              rw [he, eqB_self, Bool.not_true] at hq
              repeat (go_quiet (fail); try go_wp2)
              refine ⟨⟨j + 1, by omega, rfl, ⟨fun k hk => ?_⟩, ⟨HX2.out.step (pw_below_drewN (Below.refl _ _) nq)⟩⟩, by simp [intOf]; omega⟩
              rcases (by omega : k < j ∨ k = j) with h | rfl
              · exact HE.out k h
              · rw [List.getElem?_eq_getElem hlb, List.getElem?_eq_getElem hlc, he]
            · have hq := inst_eq (rd_T69 B j) (rd_T69 C j)
              rw [rdI B j hlb, rdI C j hlc] at *
              rw [eqB_ne he, Bool.not_false] at hq
              have hv := Aside0.mk (eqB_ne (x := (V, B, n, f)) (y := (W, C, n, f)) (fun e => he (by have e2 : B = C := (Prod.mk.inj (Prod.mk.inj e).2).1; subst e2; rfl)))
              repeat (go_quiet (fail); try go_wp2)
              go_ret
              rw [hv.out]
              exact ⟨rfl, pw_below_drewN HX2.out.below _⟩
          · have hge : ¬ (j : Int) < N := by omega
            have q0 : wr.cell? ⟨w.heap.size, 0, none⟩ = some (.slice A0 V.length c0) := (blk_cell HX.out.a 0).trans rfl
            have q1 : wr.cell? ⟨w.heap.size + 1, 0, none⟩ = some (.slice A2 W.length c2) := (blk_cell HX.out.b 0).trans rfl
            go_wp2_with fail
            refine (equalFunc_w A0 A2 c0 c2 V W wr (Kd.C_below G0.out HX.out.below) LL4.out.1 (Kd.C_below G2.out HX.out.below) LL4.out.2.2.1).mono ?_
            rintro e w2 ⟨rfl, m, rfl⟩
            go_wp2_with fail
            go_ret
            have hn := HN.out
            have hBC : B = C := by
              refine List.ext_getElem? fun k => ?_
              rcases Nat.lt_or_ge k N with h | h
              · exact HE.out k (by omega)
              · rw [List.getElem?_eq_none (by omega), List.getElem?_eq_none (by omega)]
            subst hBC
            have hv : eqB (V, B, n, f) (W, B, n, f) = decide (V = W) := by
              rw [eqB_dec, Bool.eq_iff_iff, eqB_iff, eqB_iff]
              simp
            rw [hv]
            exact ⟨rfl, pw_below_drewN HX.out.below m⟩
      · subst h1 h2
        have b3 : ((B.length : Int) != (C.length : Int)) = true := by simp; omega
        rw [eqB_ne (fun e => h3 (by rw [(Prod.mk.inj (Prod.mk.inj e).2).1]))]
        clear h3
        go_enter Try.func30, Try.ntmps30
        go_wp2_with fail
        go_ret
        exact ⟨rfl, HX.out.below⟩
    · subst h1
      have b2 : (f != f2) = true := by simp [h2]
      rw [eqB_ne (fun e => h2 (Prod.mk.inj (Prod.mk.inj (Prod.mk.inj e).2).2).2)]
      clear h2
      go_enter Try.func30, Try.ntmps30
      go_wp2_with fail
      go_ret
      exact ⟨rfl, HX.out.below⟩
  · have b1 : (n != n2) = true := by simp [h1]
    rw [eqB_ne (fun e => h1 (Prod.mk.inj (Prod.mk.inj (Prod.mk.inj e).2).2).1)]
    clear h1
    go_enter Try.func30, Try.ntmps30
    go_wp2_with fail
    go_ret
    exact ⟨rfl, HX.out.below⟩
def state_Same.f (V : LL) (B : LI) (n f : Int) (W : LL) (C : LI) (n2 f2 : Int) : Option Bool := some (eqB (V, B, n, f) (W, C, n2, f2))
theorem state_Same.calls (A0_0 : Option Addr) (c0_0 : Nat) (l0_0 : LL) (A0_1 : Option Addr) (c0_1 : Nat) (l0_1 : LI) (a0_2 a0_3 : Int) (A1_0 : Option Addr) (c1_0 : Nat) (l1_0 : LL) (A1_1 : Option Addr) (c1_1 : Nat) (l1_1 : LI) (a1_2 a1_3 : Int) (r : Bool) (w : World)
    (hr0_0 : Kd.C (Kd.slice 3 (Kd.int .i64)) w A0_0 l0_0.length l0_0) (hc0_0 : l0_0.length ≤ c0_0) (hr0_1 : Kd.C k69 w A0_1 l0_1.length l0_1) (hc0_1 : l0_1.length ≤ c0_1)
    (hr1_0 : Kd.C (Kd.slice 3 (Kd.int .i64)) w A1_0 l1_0.length l1_0) (hc1_0 : l1_0.length ≤ c1_0) (hr1_1 : Kd.C k69 w A1_1 l1_1.length l1_1) (hc1_1 : l1_1.length ≤ c1_1) (h : state_Same.f l0_0 l0_1 a0_2 a0_3 l1_0 l1_1 a1_2 a1_3 = some r) :
    Calls Try.prog 30 #[.agg #[.slice A0_0 l0_0.length c0_0, .slice A0_1 l0_1.length c0_1, .int .i64 a0_2, .int .i64 a0_3], .agg #[.slice A1_0 l1_0.length c1_0, .slice A1_1 l1_1.length c1_1, .int .i64 a1_2, .int .i64 a1_3]] w fun e w' => e = .returned (.bool r) ∧ Below w.heap.size w w' := by
  obtain rfl := Option.some.inj h
  exact same_w A0_0 A0_1 A1_0 A1_1 c0_0 c0_1 c1_0 c1_1 l0_0 l1_0 l0_1 l1_1 a0_2 a0_3 a1_2 a1_3 w hr0_0 hc0_0 hr0_1 hc0_1 hr1_0 hc1_0 hr1_1 hc1_1
end Go.Proofs.Ytamajfcjcfkkjaa.Given
